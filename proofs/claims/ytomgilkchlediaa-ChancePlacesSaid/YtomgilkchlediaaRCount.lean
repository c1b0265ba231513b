/-
  The walk of the reference's count: all ways of so many deals, by the places in the end.
-/
import Derived.Test.YtomgilkchlediaaTab
import Derived.Test.YtomgilkchlediaaRefB
import Derived.Test.YtomgilkchlediaaLast
import Derived.Test.YtomgilkchlediaaApp
import Derived.Deep.Cut
import Derived.Outline
namespace Go.Proofs.Ytomgilkchlediaa
open Go.RowKit

/-- A great number; hidden, for it is long. -/
def cap50 : Int := 100000000000000000000000000000000000000000000000000
theorem small_cap {n : Int} (h : n ≤ cap50) : Small n := small_of_lit (by unfold cap50 at h; omega)
theorem placeTo_lt {pts : List Int} {s : Nat} : ∀ k, s < k → placeTo pts s k < k
  | k + 1, h => by
    rw [placeTo_succ]
    by_cases e : s = k
    · subst e
      have := placeTo_le pts s s
      have hf : aheadB pts s s = false := by simp [aheadB]
      rw [hf]
      simp
      omega
    · have := placeTo_lt (pts := pts) (s := s) k (by omega)
      split <;> omega
theorem placeN_lt {pts : List Int} {s : Nat} (h : s < pts.length) : placeN pts s < pts.length := placeTo_lt _ h
/-- What counting hands back. -/
def CRes (w0 w : World) (n : Nat) (l : List Sw) (d : Nat) (pts : List Int) (N : Int) (P : Nat) (Q : Nat → Nat) (f : Nat → Nat → Int) (e : Ending) (w' : World) : Prop :=
  ∃ A m c, e = .returned (.slice A m c) ∧ IsNatF w' (.slice A m c) (N * wsum l oneP d pts) ∧ Grow w0 w' ∧ NatKeep w w' ∧ TabAt w' P n Q (fun i j => f i j + N * wsum l (indP i j) d pts)
/-- What is asked of the points, the ways and the table. -/
structure CIn (w0 w : World) (n : Nat) (d : Nat) (pts : List Int) (N : Int) (P : Nat) (Q : Nat → Nat) (f : Nat → Nat → Int) : Prop where
  hg : Grow w0 w
  len : pts.length = n
  pts : ∀ z ∈ pts, -2000000000000 + 1000000 * (d : Int) ≤ z ∧ z ≤ 2000000000000 - 1000000 * (d : Int)
  N0 : 0 ≤ N ∧ N * capW d ≤ cap50
  f0 : ∀ i j, i < n → j < n → 0 ≤ f i j ∧ f i j + N * capW d ≤ cap50
  tab : TabAt w P n Q f

/-- The points are read as long as only naturals are written. -/
def Seen (w0 w : World) (v : Value) (pts : List Int) : Prop := ∀ W, Grow w0 W → NatKeep w W → IsInts W v pts
theorem Seen.of_F {w0 w : World} {v : Value} {pts : List Int} (h : IsIntsF w v pts) : Seen w0 w v pts := fun _ _ hk => (hk.intsF h).1
theorem Seen.of_old {w0 w : World} {v : Value} {pts : List Int} (h : IsInts w0 v pts) : Seen w0 w v pts := fun _ hg _ => h.grow hg
theorem Seen.now {w0 w : World} {v : Value} {pts : List Int} (h : Seen w0 w v pts) (hg : Grow w0 w) : IsInts w v pts := h w hg (NatKeep.refl w)

set_option maxRecDepth 100000 in
set_option maxHeartbeats 8000000 in
theorem count_zero (n : Nat) (l : List Sw) (w0 : World) (vl : Value) (P : Nat) (Q : Nat → Nat) (n4 : n ≤ 100) (hQ : ∀ i, i < n → w0.heap.size ≤ Q i)
    (v wv : Value) (pts : List Int) (N : Int) (f : Nat → Nat → Int) (w : World) (hv : Seen w0 w v pts) (hw : IsNatF w wv N) (hc : CIn w0 w n 0 pts N P Q f) :
    Calls Try.prog 31 #[v, vl, .int .i64 0, wv, .slice (some ⟨P, 0, none⟩) n n] w (CRes w0 w n l 0 pts N P Q f) := by
  obtain ⟨A, c, rfl, h1, h2, h3⟩ := hv.now hc.hg
  unfold maxLen at h2
  obtain ⟨A2, m2, c2, rfl⟩ := hw.open_
  rw [hc.len] at h1 hv
  have hlen := hc.len
  have PL := hid (fun W (k : Nat) (hg : Grow w0 W) (hk : NatKeep w W) (hkn : k < n) => place_any _ pts k W (hv W hg hk) (by omega) (by omega))
  have HV := hid hv
  have HW := hid hw
  have HC := hid hc
  have HQ := hid hQ
  have SM1 := small_cap (n := N) (by have := hc.N0; rw [capW] at this; omega)
  have HS1 := hid SM1
  have hN0 := hc.N0
  have hNb := hN0.2
  rw [capW] at hNb
  rw [hlen]
  have HLEN := hid hlen
  clear hv hw hc hQ SM1 h3 hlen
  go_enter Try.func31, Try.ntmps31
  go_wp2
  go_loopw [11] (fun i wr => ∃ k : Nat, k ≤ n ∧ i = .int .i64 (k : Int) ∧ Grow w0 wr ∧ NatKeep w wr ∧ TabAt wr P n Q (fun i j => f i j + if i < k then N * indP i j pts else 0)) (fun i _ => n - (intOf i).toNat)
  case atStart => exact ⟨0, Nat.zero_le _, rfl, HC.out.hg, NatKeep.refl _, by
    have := HC.out.tab
    refine ⟨this.rows, fun i hi => ?_, this.apart⟩
    obtain ⟨us, k1, k2, k3⟩ := this.wins i hi
    exact ⟨us, k1, k2, fun b v hb => by show IsNatF w v (f i b + if i < 0 then N * indP i b pts else 0); rw [if_neg (by omega), Int.add_zero]; exact k3 b v hb⟩⟩
  case round =>
    obtain ⟨k, hk, rfl, hgr, hkr, htr⟩ := hrel
    have HG := hid hgr
    have HK := hid hkr
    have HT := hid htr
    by_cases hlt : k < n
    · have k0 : (0 : Int) ≤ (k : Int) := by omega
      have k1 : (k : Int) < (n : Int) := by omega
      have pl := PL.out wr k hgr hkr hlt
      have hp : placeN pts k < n := by rw [← HLEN.out]; exact placeN_lt (by rw [HLEN.out]; exact hlt)
      have IND := hid (show ∀ j, indP k j pts = if placeN pts k = j then 1 else 0 from fun j => rfl)
      generalize placeN pts k = p at *
      have PC := hid pl
      have p0 : (0 : Int) ≤ (p : Int) := by omega
      have p1 : (p : Int) < (n : Int) := by omega
      have hrow := htr.row hlt
      obtain ⟨A3, m3, c3, hc3, ht3, hf3, hql⟩ := (htr.wins k hlt).at_ hp
      simp only [Nat.lt_irrefl, if_false, Int.add_zero] at ht3
      have HB := hid (HC.out.f0 k p hlt hp)
      have SM2 := hid (small_cap (n := f k p) (by have := HB.out; have := hN0.1; have := Int.mul_nonneg hN0.1 (show 0 ≤ capW 0 by decide); omega))
      have KEEP := hid (fun W (hg : Grow wr W) => (⟨hg, hg.cell_some hrow, hg.cell_some hc3⟩ : Grow wr W ∧ W.cell? ⟨P, k, none⟩ = some (.slice (some ⟨Q k, 0, none⟩) n n) ∧ W.cell? ⟨Q k, p, none⟩ = some (.slice A3 m3 c3)))
      have SU := hid (fun W (hg : Grow wr W) => add_any _ _ _ _ W (ht3.grow hg).1 ((HK.out.grow hg).natF HW.out).1 SM2.out HS1.out)
      have HF3 := hid hf3
      clear hgr hkr htr pl hrow hc3 ht3 hf3
      go_wp2_with (go_at_call 48; refine PC.out.mono ?_; rintro e wq ⟨rfl, nq, rfl⟩)
      refine anyBut_region 15 (S := fun W => Grow wr W ∧ W.cell? ⟨P, k, none⟩ = some (.slice (some ⟨Q k, 0, none⟩) n n) ∧ W.cell? ⟨Q k, p, none⟩ = some (.slice A3 m3 c3)) (by kernel_rfl) (KEEP.out _ ((Grow.refl wr).drewN nq).drew) (fun hQ hHeld => ?_)
      refine AnyBut.take 0 (v := ?_) (by rfl) (by kernel_rfl) (by kernel_rfl) (by kernel_rfl) (by kernel_rfl) hQ (by rfl) (fun w hS => ?_) hHeld ?_
      rotate_left
      · (try dsimp only at hS); go_simp; (try with_reducible rfl)
      (try simp only [Act.put])
      refine AnyBut.take 1 (v := ?_) (by rfl) (by kernel_rfl) (by kernel_rfl) (by kernel_rfl) (by kernel_rfl) hQ (by rfl) (fun w hS => ?_) hHeld ?_
      rotate_left
      · (try dsimp only at hS); go_simp; (try with_reducible rfl)
      (try simp only [Act.put])
      refine AnyBut.take 2 (v := ?_) (by rfl) (by kernel_rfl) (by kernel_rfl) (by kernel_rfl) (by kernel_rfl) hQ (by rfl) (fun w hS => ?_) hHeld ?_
      rotate_left
      · (try dsimp only at hS); go_simp; (try with_reducible rfl)
      (try simp only [Act.put])
      refine AnyBut.take 3 (v := ?_) (by rfl) (by kernel_rfl) (by kernel_rfl) (by kernel_rfl) (by kernel_rfl) hQ (by rfl) (fun w hS => ?_) hHeld ?_
      rotate_left
      · (try dsimp only at hS); go_simp; (try with_reducible rfl)
      (try simp only [Act.put])
      refine AnyBut.take 4 (v := ?_) (by rfl) (by kernel_rfl) (by kernel_rfl) (by kernel_rfl) (by kernel_rfl) hQ (by rfl) (fun w hS => ?_) hHeld ?_
      rotate_left
      · (try dsimp only at hS); go_simp; (try with_reducible rfl)
      (try simp only [Act.put])
      refine AnyBut.take 5 (v := ?_) (by rfl) (by kernel_rfl) (by kernel_rfl) (by kernel_rfl) (by kernel_rfl) hQ (by rfl) (fun w hS => ?_) hHeld ?_
      rotate_left
      · (try dsimp only at hS); go_simp; (try with_reducible rfl)
      (try simp only [Act.put])
      refine AnyBut.take 6 (v := ?_) (by rfl) (by kernel_rfl) (by kernel_rfl) (by kernel_rfl) (by kernel_rfl) hQ (by rfl) (fun w hS => ?_) hHeld ?_
      rotate_left
      · (try dsimp only at hS); go_simp; (try with_reducible rfl)
      (try simp only [Act.put])
      refine AnyBut.take 7 (v := ?_) (by rfl) (by kernel_rfl) (by kernel_rfl) (by kernel_rfl) (by kernel_rfl) hQ (by rfl) (fun w hS => ?_) hHeld ?_
      rotate_left
      · (try dsimp only at hS); go_simp; (try with_reducible rfl)
      (try simp only [Act.put])
      refine AnyBut.take 8 (v := ?_) (by rfl) (by kernel_rfl) (by kernel_rfl) (by kernel_rfl) (by kernel_rfl) hQ (by rfl) (fun w hS => ?_) hHeld ?_
      rotate_left
      · (try dsimp only at hS); go_simp; (try with_reducible rfl)
      (try simp only [Act.put])
      refine AnyBut.take 9 (v := ?_) (by rfl) (by kernel_rfl) (by kernel_rfl) (by kernel_rfl) (by kernel_rfl) hQ (by rfl) (fun w hS => ?_) hHeld ?_
      rotate_left
      · (try dsimp only at hS); go_simp; (try with_reducible rfl)
      (try simp only [Act.put])
      refine AnyBut.take 10 (v := ?_) (by rfl) (by kernel_rfl) (by kernel_rfl) (by kernel_rfl) (by kernel_rfl) hQ (by rfl) (fun w hS => ?_) hHeld ?_
      rotate_left
      · (try dsimp only at hS); go_simp; (try with_reducible rfl)
      (try simp only [Act.put])
      refine AnyBut.take 11 (v := ?_) (by rfl) (by kernel_rfl) (by kernel_rfl) (by kernel_rfl) (by kernel_rfl) hQ (by rfl) (fun w hS => ?_) hHeld ?_
      rotate_left
      · (try dsimp only at hS); go_simp; (try with_reducible rfl)
      (try simp only [Act.put])
      refine AnyBut.take 12 (v := ?_) (by rfl) (by kernel_rfl) (by kernel_rfl) (by kernel_rfl) (by kernel_rfl) hQ (by rfl) (fun w hS => ?_) hHeld ?_
      rotate_left
      · (try dsimp only at hS); go_simp; (try with_reducible rfl)
      (try simp only [Act.put])
      refine AnyBut.one 13 (by kernel_rfl) (by rfl) (fun K hK => ?_)
      go_simp
      refine (SU.out _ ((Grow.refl wr).drewN nq).drew).mono ?_
      rintro e wC ⟨vC, rfl, kC, gC0⟩
      have gC := ((Grow.refl wr).drewN nq).drew.trans gC0
      obtain ⟨A10, m10, c10, rfl⟩ := kC.open_
      refine hK.out _ _ (KEEP.out _ gC) (fun hHeld => ?_)
      (try simp only [Act.put])
      refine AnyBut.take 14 (v := ?_) (by rfl) (by kernel_rfl) (by kernel_rfl) (by kernel_rfl) (by kernel_rfl) hQ (by rfl) (fun w hS => ?_) hHeld ?_
      rotate_left
      · (try dsimp only at hS); go_simp; (try with_reducible rfl)
      (try simp only [Act.put])
      have hcZ := hHeld.2.2
      have hfZ := (gC.frozen (p := ⟨Q k, p, none⟩) hql).trans HF3.out
      refine AnyBut.last (by kernel_rfl) (by rfl) (by kernel_rfl) (fun K hK => ?_)
      go_simp
      refine hK.out _ _ ?_
      refine NoPanic.normal ?_
      obtain ⟨us, hus⟩ := ((HT.out.grow gC).wins k hlt).blk
      have HNEW := hid (And.intro ((HG.out.trans gC).set (p := ⟨Q k, p, none⟩) (HQ.out k hlt) (.slice A10 m10 c10)) (And.intro ((HK.out.grow gC).set hus p (.slice A10 m10 c10)) ((HT.out.grow gC).set (f' := fun i j => f i j + if i < k + 1 then N * indP i j pts else 0) (j := p) hlt (u := .slice A10 m10 c10) (by
        simp only [Nat.lt_succ_self, if_true, IND.out, Int.mul_one]
        exact kC) (fun a b hab => by
        by_cases ha : a = k
        · subst ha
          rw [if_pos (Nat.lt_succ_self a), if_neg (Nat.lt_irrefl a), IND.out, if_neg (by omega), Int.mul_zero]
        · by_cases hl : a < k
          · rw [if_pos (by omega), if_pos hl]
          · rw [if_neg (by omega), if_neg hl]))))
      clear hcZ hfZ
      go_wp2
      exact ⟨⟨k + 1, by omega, by go_num, HNEW.out⟩, by simp only [intOf]; omega⟩
    · obtain rfl : k = n := by omega
      have HFIN := hid (show TabAt wr P k Q (fun i j => f i j + N * wsum l (indP i j) 0 pts) from ⟨HT.out.rows, fun i hi => by
        obtain ⟨us, k1, k2, k3⟩ := HT.out.wins i hi
        exact ⟨us, k1, k2, fun b v hb => by have h := k3 b v hb; show IsNatF wr v (f i b + N * wsum l (indP i b) 0 pts); rw [show (fun j => f i j + if i < k then N * indP i j pts else 0) b = f i b + if i < k then N * indP i b pts else 0 from rfl, if_pos hi] at h; exact h⟩, HT.out.apart⟩)
      go_wp2
      go_ret
      exact ⟨_, _, _, rfl, by rw [wsum, oneP, Int.mul_one]; exact HK.out.natF HW.out, HG.out, HK.out, HFIN.out⟩

theorem TabAt.congr {w : World} {P n : Nat} {Q : Nat → Nat} {f f' : Nat → Nat → Int} (h : TabAt w P n Q f) (e : ∀ i j, f' i j = f i j) : TabAt w P n Q f' := by
  have : f' = f := funext fun i => funext fun j => e i j
  rw [this]; exact h
theorem wpart_bound {n : Nat} {l : List Sw} (ok : SwOk n l) {f : List Int → Int} (hf : ∀ p, 0 ≤ f p ∧ f p ≤ 1) (d : Nat) (p : List Int) : ∀ k, k ≤ l.length → 0 ≤ wpart l f d p k ∧ wpart l f d p k ≤ (k : Int) * (1000 * capW d)
  | 0, _ => by rw [wpart_zero]; simp
  | k + 1, hk => by
    have h1 := wpart_bound ok hf d p k (by omega)
    rw [wpart_succ (by omega)]
    have hw := ok.w l[k] (List.getElem_mem _)
    have hs := wsum_bound ok hf d (addP p l[k].p)
    have hm0 : 0 ≤ l[k].w * wsum l f d (addP p l[k].p) := Int.mul_nonneg (by omega) hs.1
    have hm1 : l[k].w * wsum l f d (addP p l[k].p) ≤ 1000 * capW d := Int.mul_le_mul hw.2 hs.2 hs.1 (by decide)
    have e : ((k + 1 : Nat) : Int) * (1000 * capW d) = (k : Int) * (1000 * capW d) + 1000 * capW d := by rw [Int.natCast_add, Int.add_mul]; simp
    rw [e]
    omega
theorem part_step (N a b c : Int) : N * (a + b * c) = N * a + N * b * c := by rw [Int.mul_add, Int.mul_assoc]
/-- Bounds of what is counted so far. -/
theorem part_cap {n : Nat} {l : List Sw} (ok : SwOk n l) {f : List Int → Int} (hf : ∀ p, 0 ≤ f p ∧ f p ≤ 1) {d : Nat} {p : List Int} {N : Int} (hN : 0 ≤ N) {k : Nat} (hk : k < l.length) :
    0 ≤ N * wpart l f d p k ∧ N * wpart l f d p k + N * l[k].w * capW d ≤ N * capW (d + 1) := by
  have hb := wpart_bound ok hf d p k (by omega)
  have hc := capW_pos d
  have hw := ok.w l[k] (List.getElem_mem _)
  refine ⟨Int.mul_nonneg hN hb.1, ?_⟩
  rw [Int.mul_assoc, ← Int.mul_add]
  refine Int.mul_le_mul_of_nonneg_left ?_ hN
  have h1 : l[k].w * capW d ≤ 1000 * capW d := Int.mul_le_mul_of_nonneg_right hw.2 (by omega)
  have h2 : (k : Int) * (1000 * capW d) ≤ 7 * (1000 * capW d) := Int.mul_le_mul_of_nonneg_right (by have := ok.len; omega) (by omega)
  rw [capW]
  omega
theorem addP_len {a b : List Int} {n : Nat} (ha : a.length = n) (hb : b.length = n) : (addP a b).length = n := by unfold addP; rw [List.length_zipWith]; omega
theorem addP_at {a b : List Int} {q : Nat} (h : q < (addP a b).length) (h1 : q < a.length) (h2 : q < b.length) : (addP a b)[q] = a[q] + b[q] := List.getElem_zipWith ..
theorem CIn.next {w0 w W : World} {n d : Nat} {pts : List Int} {N : Int} {P : Nat} {Q : Nat → Nat} {f : Nat → Nat → Int} {l : List Sw} (ok : SwOk n l) (h : CIn w0 w n (d + 1) pts N P Q f) {k : Nat} (hk : k < l.length) (hg : Grow w0 W)
    (ht : TabAt W P n Q (fun i j => f i j + N * wpart l (indP i j) d pts k)) : CIn w0 W n d (addP pts l[k].p) (N * l[k].w) P Q (fun i j => f i j + N * wpart l (indP i j) d pts k) := by
  have hp := ok.p l[k] (List.getElem_mem _)
  have hw := ok.w l[k] (List.getElem_mem _)
  have hN := h.N0
  refine ⟨hg, addP_len h.len hp.1, fun z hz => ?_, ?_, fun i j hi hj => ?_, ht⟩
  · obtain ⟨q, hq, rfl⟩ := List.getElem_of_mem hz
    have hq2 := hq
    rw [addP_len h.len hp.1] at hq2
    have q1 : q < pts.length := by rw [h.len]; exact hq2
    have q2 : q < l[k].p.length := by rw [hp.1]; exact hq2
    rw [addP_at hq q1 q2]
    have h1 := h.pts _ (List.getElem_mem q1)
    have h2 := hp.2 _ (List.getElem_mem q2)
    omega
  · have := (part_cap ok oneP_bound (p := pts) (d := d) hN.1 hk)
    exact ⟨Int.mul_nonneg hN.1 (by omega), by omega⟩
  · have h1 := part_cap ok (indP_bound i j) (p := pts) (d := d) hN.1 hk
    have h2 := h.f0 i j hi hj
    omega
/-- The first j points are behind the swing. -/
def mixP (a b : List Int) (j : Nat) : List Int := (addP a b).take j ++ a.drop j
theorem mixP_len {a b : List Int} {n j : Nat} (ha : a.length = n) (hb : b.length = n) (hj : j ≤ n) : (mixP a b j).length = n := by
  unfold mixP
  rw [List.length_append, List.length_take, List.length_drop, addP_len ha hb]
  omega
theorem mixP_at {a b : List Int} {n j : Nat} (ha : a.length = n) (hb : b.length = n) (hj : j < n) : (mixP a b j)[j]? = some (a[j]'(by omega)) := by
  unfold mixP
  have hl := addP_len ha hb
  rw [List.getElem?_append_right (by rw [List.length_take]; omega), List.length_take, List.getElem?_drop]
  rw [show j + (j - min j (addP a b).length) = j by omega]
  exact List.getElem?_eq_getElem (by omega)
theorem mixP_set {a b : List Int} {n j : Nat} (ha : a.length = n) (hb : b.length = n) (hj : j < n) : (mixP a b j).set j (a[j]'(by omega) + b[j]'(by omega)) = mixP a b (j + 1) := by
  have hl := addP_len ha hb
  apply List.ext_getElem?
  intro q
  rw [List.getElem?_set]
  unfold mixP
  simp only [List.length_append, List.length_take, List.length_drop]
  by_cases e : j = q
  · subst e
    rw [if_pos rfl, if_pos (by omega), List.getElem?_append_left (by rw [List.length_take]; omega), List.getElem?_take, if_pos (by omega), List.getElem?_eq_getElem (by omega), addP_at (by omega) (by omega) (by omega)]
  · rw [if_neg e]
    by_cases hq : q < j
    · rw [List.getElem?_append_left (by rw [List.length_take]; omega), List.getElem?_append_left (by rw [List.length_take]; omega), List.getElem?_take, List.getElem?_take, if_pos hq, if_pos (by omega)]
    · rw [List.getElem?_append_right (by rw [List.length_take]; omega), List.getElem?_append_right (by rw [List.length_take]; omega), List.length_take, List.length_take, List.getElem?_drop, List.getElem?_drop]
      rw [show j + (q - min j (addP a b).length) = q by omega, show j + 1 + (q - min (j + 1) (addP a b).length) = q by omega]
theorem mixP_all {a b : List Int} {n : Nat} (ha : a.length = n) (hb : b.length = n) : mixP a b n = addP a b := by
  unfold mixP
  have hl := addP_len ha hb
  rw [← hl, List.take_length, List.drop_eq_nil_of_le (by omega), List.append_nil]

theorem ints_rd {w : World} {B : Option Addr} {m dd : Nat} {sp : List Int} (h : IsInts w (.slice B m dd) sp) : m = sp.length ∧ sp.length ≤ dd ∧ dd ≤ maxLen ∧ Rd w B (ints sp) := by
  obtain ⟨_, _, e, h1, h2, h3⟩ := h
  injection e with e1 e2 e3
  subst e1 e3
  exact ⟨e2, h1, h2, h3⟩
theorem mixP_zero (a b : List Int) : mixP a b 0 = a := by simp [mixP]
theorem own_at {w0 w : World} {g n cap : Nat} {zs : List Int} (h : Own w0 w (.slice (some ⟨g, 0, none⟩) n cap) zs) {j : Nat} {z : Int} (hz : zs[j]? = some z) : w.cell? ⟨g, j, none⟩ = some (.int .i64 z) ∧ w.frozen? ⟨g, j, none⟩ = false := by
  obtain ⟨_, _, e, _⟩ := h.is
  injection e with _ e _
  subst e
  obtain ⟨hj, rfl⟩ := List.getElem?_eq_some_iff.1 hz
  exact ⟨h.cell hj, Own.free h j⟩
theorem own_put {w0 w : World} {g n cap : Nat} {zs : List Int} (h : Own w0 w (.slice (some ⟨g, 0, none⟩) n cap) zs) (j : Nat) (z : Int) : Own w0 (w.setCell ⟨g, j, none⟩ (.int .i64 z)) (.slice (some ⟨g, 0, none⟩) n cap) (zs.set j z) := by
  obtain ⟨_, _, e, _⟩ := h.is
  injection e with _ e _
  subst e
  exact Own.set h j z
theorem le_capW {N : Int} (h : 0 ≤ N) (d : Nat) : N ≤ N * capW d := by
  have := Int.mul_le_mul_of_nonneg_left (capW_pos d) h
  rwa [Int.mul_one] at this

set_option maxRecDepth 100000 in
set_option maxHeartbeats 8000000 in
theorem count_succ (n : Nat) (l : List Sw) (ok : SwOk n l) (w0 : World) (vl : Value) (hl : IsSw w0 vl l) (P : Nat) (Q : Nat → Nat) (n0 : 0 < n) (n4 : n ≤ 100) (d : Nat) (d4 : d ≤ 10)
    (IH : ∀ (v wv : Value) (pts : List Int) (N : Int) (f : Nat → Nat → Int) (w : World), Seen w0 w v pts → IsNatF w wv N → CIn w0 w n d pts N P Q f → Calls Try.prog 31 #[v, vl, .int .i64 (d : Int), wv, .slice (some ⟨P, 0, none⟩) n n] w (CRes w0 w n l d pts N P Q f))
    (v wv : Value) (pts : List Int) (N : Int) (f : Nat → Nat → Int) (w : World) (hv : Seen w0 w v pts) (hw : IsNatF w wv N) (hc : CIn w0 w n (d + 1) pts N P Q f) :
    Calls Try.prog 31 #[v, vl, .int .i64 ((d + 1 : Nat) : Int), wv, .slice (some ⟨P, 0, none⟩) n n] w (CRes w0 w n l (d + 1) pts N P Q f) := by
  have hlen := hc.len
  obtain ⟨A, c, rfl, h1, h2, h3⟩ := hv.now hc.hg
  unfold maxLen at h2
  obtain ⟨A2, m2, c2, rfl⟩ := hw.open_
  obtain ⟨AL, cL, rfl, hl1, hl2, hl3⟩ := hl
  unfold maxLen at hl2
  rw [hlen] at h1 hv ⊢
  have HV := hid hv
  have HW := hid hw
  have HC := hid hc
  have HI := hid IH
  have HL := hid hl3
  have HLEN := hid hlen
  have l8 := ok.len
  obtain ⟨D, hD⟩ : ∃ D : Int, D = ((d + 1 : Nat) : Int) := ⟨_, rfl⟩
  rw [← hD]
  have D0 : (D == 0) = false := by simp; omega
  have D1 : IntKind.i64.wrap (D - 1) = (d : Int) := by rw [IntWalk.i64_in _ (by omega)]; omega
  have HN := hid hc.N0
  clear hv hw hc IH hl3 h3 hlen hD
  go_enter Try.func31, Try.ntmps31
  go_wp2
  go_loopw [13, 14] (fun ov i wr => ∃ (k : Nat) (Ao : Option Addr) (mo co : Nat), k ≤ l.length ∧ i = .int .i64 (k : Int) ∧ ov = .slice Ao mo co ∧ IsNatF wr ov (N * wpart l oneP d pts k) ∧ Grow w0 wr ∧ NatKeep w wr ∧ TabAt wr P n Q (fun i j => f i j + N * wpart l (indP i j) d pts k)) (fun _ i _ => l.length - (intOf i).toNat)
  case atStart => exact ⟨0, none, 0, 0, Nat.zero_le _, rfl, rfl, by rw [wpart_zero, Int.mul_zero]; exact IsNatF.nil, HC.out.hg, NatKeep.refl _, HC.out.tab.congr fun i j => by rw [wpart_zero, Int.mul_zero, Int.add_zero]⟩
  case round =>
    obtain ⟨k, Ao, mo, co, hk, rfl, rfl, hno, hgr, hkr, htr⟩ := hrel
    have HNO := hid hno
    have HG := hid hgr
    have HK := hid hkr
    have HT := hid htr
    by_cases hlt : k < l.length
    · obtain ⟨ad, B, m, dd, rfl, hb, x0, x1, hI, hm⟩ := HL.out k hlt
      have hp := ok.p l[k] (List.getElem_mem _)
      have hww := ok.w l[k] (List.getElem_mem _)
      rw [hp.1] at hm
      subst hm
      have hI := hI.grow hgr
      have X01 := hid (And.intro (hgr.cell_some x0) (hgr.cell_some x1))
      have i0 : (0 : Int) ≤ (k : Int) := by omega
      have i1 : (k : Int) < (l.length : Int) := by omega
      have NX := hid (fun W (hg : Grow w0 W) (ht : TabAt W P m Q (fun i j => f i j + N * wpart l (indP i j) d pts k)) => CIn.next ok HC.out hlt hg ht)
      have WS := hid (fun (g : List Int → Int) => wpart_succ (f := g) (d := d) (p := pts) hlt)
      have PC := hid (part_cap ok oneP_bound (d := d) (p := pts) HN.out.1 hlt)
      have WB := hid (wsum_bound ok oneP_bound d (addP pts l[k].p))
      have HP := hid hp
      clear hp hno hgr hkr htr x0 x1
      generalize l[k].w = sw at *
      generalize l[k].p = sp at *
      have o0 := hid (Own.lit0 (Grow.refl wr))
      have ga : Grow wr (wr.alloc (.cells #[] 3)) := (Grow.refl _).alloc _
      have I1 := hid (show IsInts (wr.alloc (.cells #[] 3)) (.slice A m c) pts from HV.out _ (HG.out.trans ga) (HK.out.grow ga))
      have HLL := hid (show ([] : List Int).length + pts.length ≤ 1000000000000 by rw [HLEN.out]; simp; omega)
      have hrd := (ints_rd hI).2.2.2
      clear hI
      obtain ⟨adB, rfl, _, _⟩ := hrd.int (k := 0) (by rw [HP.out.1]; exact n0)
      have HRD := hid hrd
      clear hrd
      go_upto_region 13 with (at_builtin; refine wpList_append_ints wr _ rfl (.tmp 50) (.tmp 51) _ rfl Try.underlying22 _ _ [] pts rfl o0.out rfl I1.out HLL.out ga ?_; intro v5 w5 ho5 hg5 _)
      rw [List.nil_append] at ho5
      obtain ⟨g, c5, rfl, hgl, hlc, hmc⟩ := ho5.form (by rw [HLEN.out]; omega)
      rw [HLEN.out] at ho5 hlc ⊢
      unfold maxLen at hmc
      have HO5 := hid (And.intro ho5 hg5)
      clear ho5 hg5 ga
      go_wp2_with fail
      obtain ⟨wo, rfl⟩ : ∃ x, x = wr := ⟨_, rfl⟩
      go_loopw [16] (fun i wq => ∃ j : Nat, j ≤ m ∧ i = .int .i64 (j : Int) ∧ Own wo wq (.slice (some ⟨g, 0, none⟩) m c5) (mixP pts sp j) ∧ Grow wo wq) (fun i _ => m - (intOf i).toNat)
      case atStart => exact ⟨0, Nat.zero_le _, rfl, by rw [mixP_zero]; exact HO5.out.1, HO5.out.2⟩
      case round =>
        obtain ⟨j, hj, rfl, hoj, hgj⟩ := hrel
        have HOJ := hid hoj
        have HGJ := hid hgj
        by_cases hjm : j < m
        · have hj1 : j < pts.length := by rw [HLEN.out]; exact hjm
          have hj2 : j < sp.length := by rw [HP.out.1]; exact hjm
          obtain ⟨f1, f2⟩ := own_at hoj (mixP_at HLEN.out HP.out.1 hjm)
          obtain ⟨ad2, e, hb2, y⟩ := HRD.out.int hj2
          obtain rfl := Option.some.inj e
          have hz1 := HC.out.pts _ (List.getElem_mem hj1)
          have hz2 := HP.out.2 _ (List.getElem_mem hj2)
          have MS := hid (mixP_set HLEN.out HP.out.1 hjm)
          have SET := hid (fun W (h : Own wo W (.slice (some ⟨g, 0, none⟩) m c5) (mixP pts sp j)) => own_put h j (pts[j]'hj1 + sp[j]'hj2))
          have wz : IntKind.i64.wrap (pts[j]'hj1 + sp[j]'hj2) = pts[j]'hj1 + sp[j]'hj2 := IntWalk.i64_in _ (by omega)
          have j0 : (0 : Int) ≤ (j : Int) := by omega
          have j1 : (j : Int) < (m : Int) := by omega
          generalize pts[j]'hj1 = za at *
          generalize sp[j]'hj2 = zb at *
          have HF2 := hid f2
          have y := hgj.cell_some y
          have x1 := hgj.cell_some X01.out.2
          have KEEP := hid (show wr.cell? ⟨g, j, none⟩ = some (.int .i64 za) ∧ wr.cell? ⟨(ad.add (k * 2)).block, (ad.add (k * 2)).off + 1, none⟩ = some (.slice (some adB) m dd) ∧ wr.cell? (adB.add j) = some (.int .i64 zb) from ⟨f1, x1, y⟩)
          clear hoj hgj f1 f2 y x1 hz1 hz2 hb2
          go_wp2_with fail
          refine anyBut_region 16 (S := fun W => W.cell? ⟨g, j, none⟩ = some (.int .i64 za) ∧ W.cell? ⟨(ad.add (k * 2)).block, (ad.add (k * 2)).off + 1, none⟩ = some (.slice (some adB) m dd) ∧ W.cell? (adB.add j) = some (.int .i64 zb)) (by kernel_rfl) KEEP.out (fun hQ hHeld => ?_)
          refine AnyBut.take 0 (v := ?_) (by rfl) (by kernel_rfl) (by kernel_rfl) (by kernel_rfl) (by kernel_rfl) hQ (by rfl) (fun w hS => ?_) hHeld ?_
          rotate_left
          · (try dsimp only at hS); go_simp; (try with_reducible rfl)
          (try simp only [Act.put])
          refine AnyBut.take 1 (v := ?_) (by rfl) (by kernel_rfl) (by kernel_rfl) (by kernel_rfl) (by kernel_rfl) hQ (by rfl) (fun w hS => ?_) hHeld ?_
          rotate_left
          · (try dsimp only at hS); go_simp; (try with_reducible rfl)
          (try simp only [Act.put])
          refine AnyBut.take 2 (v := ?_) (by rfl) (by kernel_rfl) (by kernel_rfl) (by kernel_rfl) (by kernel_rfl) hQ (by rfl) (fun w hS => ?_) hHeld ?_
          rotate_left
          · (try dsimp only at hS); go_simp; (try with_reducible rfl)
          (try simp only [Act.put])
          refine AnyBut.take 3 (v := ?_) (by rfl) (by kernel_rfl) (by kernel_rfl) (by kernel_rfl) (by kernel_rfl) hQ (by rfl) (fun w hS => ?_) hHeld ?_
          rotate_left
          · (try dsimp only at hS); go_simp; (try with_reducible rfl)
          (try simp only [Act.put])
          refine AnyBut.take 4 (v := ?_) (by rfl) (by kernel_rfl) (by kernel_rfl) (by kernel_rfl) (by kernel_rfl) hQ (by rfl) (fun w hS => ?_) hHeld ?_
          rotate_left
          · (try dsimp only at hS); go_simp; (try with_reducible rfl)
          (try simp only [Act.put])
          refine AnyBut.take 5 (v := ?_) (by rfl) (by kernel_rfl) (by kernel_rfl) (by kernel_rfl) (by kernel_rfl) hQ (by rfl) (fun w hS => ?_) hHeld ?_
          rotate_left
          · (try dsimp only at hS); go_simp; (try with_reducible rfl)
          (try simp only [Act.put])
          refine AnyBut.take 6 (v := ?_) (by rfl) (by kernel_rfl) (by kernel_rfl) (by kernel_rfl) (by kernel_rfl) hQ (by rfl) (fun w hS => ?_) hHeld ?_
          rotate_left
          · (try dsimp only at hS); go_simp; (try with_reducible rfl)
          (try simp only [Act.put])
          refine AnyBut.take 7 (v := ?_) (by rfl) (by kernel_rfl) (by kernel_rfl) (by kernel_rfl) (by kernel_rfl) hQ (by rfl) (fun w hS => ?_) hHeld ?_
          rotate_left
          · (try dsimp only at hS); go_simp; (try with_reducible rfl)
          (try simp only [Act.put])
          refine AnyBut.take 8 (v := ?_) (by rfl) (by kernel_rfl) (by kernel_rfl) (by kernel_rfl) (by kernel_rfl) hQ (by rfl) (fun w hS => ?_) hHeld ?_
          rotate_left
          · (try dsimp only at hS); go_simp; (try with_reducible rfl)
          (try simp only [Act.put])
          refine AnyBut.take 9 (v := ?_) (by rfl) (by kernel_rfl) (by kernel_rfl) (by kernel_rfl) (by kernel_rfl) hQ (by rfl) (fun w hS => ?_) hHeld ?_
          rotate_left
          · (try dsimp only at hS); go_simp; (try with_reducible rfl)
          (try simp only [Act.put])
          refine AnyBut.take 10 (v := ?_) (by rfl) (by kernel_rfl) (by kernel_rfl) (by kernel_rfl) (by kernel_rfl) hQ (by rfl) (fun w hS => ?_) hHeld ?_
          rotate_left
          · (try dsimp only at hS); go_simp; (try with_reducible rfl)
          (try simp only [Act.put])
          refine AnyBut.take 11 (v := ?_) (by rfl) (by kernel_rfl) (by kernel_rfl) (by kernel_rfl) (by kernel_rfl) hQ (by rfl) (fun w hS => ?_) hHeld ?_
          rotate_left
          · (try dsimp only at hS); go_simp; (try with_reducible rfl)
          (try simp only [Act.put])
          refine AnyBut.take 12 (v := ?_) (by rfl) (by kernel_rfl) (by kernel_rfl) (by kernel_rfl) (by kernel_rfl) hQ (by rfl) (fun w hS => ?_) hHeld ?_
          rotate_left
          · (try dsimp only at hS); go_simp; (try with_reducible rfl)
          (try simp only [Act.put])
          refine AnyBut.take 13 (v := ?_) (by rfl) (by kernel_rfl) (by kernel_rfl) (by kernel_rfl) (by kernel_rfl) hQ (by rfl) (fun w hS => ?_) hHeld ?_
          rotate_left
          · (try dsimp only at hS); go_simp; (try with_reducible rfl)
          (try simp only [Act.put])
          refine AnyBut.take 14 (v := ?_) (by rfl) (by kernel_rfl) (by kernel_rfl) (by kernel_rfl) (by kernel_rfl) hQ (by rfl) (fun w hS => ?_) hHeld ?_
          rotate_left
          · (try dsimp only at hS); go_simp; (try with_reducible rfl)
          (try simp only [Act.put])
          refine AnyBut.take 15 (v := ?_) (by rfl) (by kernel_rfl) (by kernel_rfl) (by kernel_rfl) (by kernel_rfl) hQ (by rfl) (fun w hS => ?_) hHeld ?_
          rotate_left
          · (try dsimp only at hS); go_simp; (try with_reducible rfl)
          (try simp only [Act.put])
          have hcZ := hHeld.1
          have hfZ : wr.drew.frozen? ⟨g, j, none⟩ = false := HF2.out
          refine AnyBut.last (by kernel_rfl) (by rfl) (by kernel_rfl) (fun K hK => ?_)
          go_simp
          refine hK.out _ _ ?_
          refine NoPanic.normal ?_
          have HNEW := hid (And.intro (SET.out wr.drew HOJ.out) ((HGJ.out.drew).set (p := ⟨g, j, none⟩) hgl (.int .i64 (za + zb))))
          clear hcZ hfZ
          go_wp2
          exact ⟨⟨j + 1, by omega, by go_num, by rw [← MS.out]; exact HNEW.out.1, HNEW.out.2⟩, by simp only [intOf]; omega⟩
        · obtain rfl : j = m := by omega
          have HNX := hid (show Own wo wr (.slice (some ⟨g, 0, none⟩) j c5) (addP pts sp) by have := HOJ.out; rwa [mixP_all HLEN.out HP.out.1] at this)
          have x0 := hgj.cell_some X01.out.1
          have H0R := hid (HG.out.trans hgj)
          have HKR := hid (HK.out.grow hgj)
          have HTR := hid (HT.out.grow hgj)
          have HNOR := hid (HNO.out.grow hgj)
          have SMN := hid (small_cap (Int.le_trans (le_capW HN.out.1 (d + 1)) HN.out.2))
          have SMW := hid (small_of_lit (n := sw) (by omega))
          have SM1 := hid (small_cap (n := N * wpart l oneP d pts k) (by have h1 := PC.out; have h2 := HN.out; have h3 := Int.mul_nonneg (Int.mul_nonneg h2.1 (show 0 ≤ sw by omega)) (show 0 ≤ capW d by have := capW_pos d; omega); omega))
          have SM2 := hid (small_cap (n := N * sw * wsum l oneP d (addP pts sp)) (by have h1 := PC.out; have h2 := HN.out; have h3 := Int.mul_le_mul_of_nonneg_left WB.out.2 (Int.mul_nonneg h2.1 (show 0 ≤ sw by omega)); omega))
          clear hoj hgj
          go_wp2_with (first
            | (go_at_call 32; refine (nat_any sw _ (by omega) (by omega)).mono ?_; rintro e w7 ⟨v7, rfl, k7, g7⟩; obtain ⟨A7, m7, c7, rfl⟩ := k7.open_)
            | (go_at_call 50; refine (times_any _ _ N sw _ ((HKR.out.grow g7).natF HW.out).1 k7.1 SMN.out SMW.out).mono ?_; rintro e w8 ⟨v8, rfl, k8, g8⟩; obtain ⟨A8, m8, c8, rfl⟩ := k8.open_; have g78 := g7.trans g8)
            | (go_at_call 31; refine (HI.out _ _ (addP pts sp) (N * sw) _ w8 (Seen.of_F ((HNX.out.kept g78).F)) k8 (NX.out w8 (H0R.out.trans g78) (HTR.out.grow g78))).mono ?_; rintro e w9 ⟨A9, m9, c9, rfl, k9, g9, nk9, t9⟩)
            | (go_at_call 49; refine (add_any _ _ _ _ _ (nk9.natF (HNOR.out.grow g78)).1 k9.1 SM1.out SM2.out).mono ?_; rintro e wA ⟨vA, rfl, kA, gA⟩; obtain ⟨AA, mA, cA, rfl⟩ := kA.open_))
          exact ⟨⟨k + 1, AA, mA, cA, by omega, by go_num, rfl, by rw [WS.out, part_step]; exact kA, g9.trans gA, ((HKR.out.grow g78).trans nk9).grow gA, (t9.grow gA).congr fun a b => by rw [WS.out, part_step, Int.add_assoc]⟩, by simp only [intOf]; omega⟩
    · obtain rfl : k = l.length := by omega
      have HFIN := hid (HT.out.congr (f' := fun i j => f i j + N * wsum l (indP i j) (d + 1) pts) fun i j => by rw [wpart_all])
      have HNF := hid (show IsNatF wr (.slice Ao mo co) (N * wsum l oneP (d + 1) pts) by rw [← wpart_all]; exact HNO.out)
      go_wp2
      go_ret
      exact ⟨_, _, _, rfl, HNF.out, HG.out, HK.out, HFIN.out⟩

theorem count_any (n : Nat) (l : List Sw) (ok : SwOk n l) (w0 : World) (vl : Value) (hl : IsSw w0 vl l) (P : Nat) (Q : Nat → Nat) (n0 : 0 < n) (n4 : n ≤ 100) (hQ : ∀ i, i < n → w0.heap.size ≤ Q i) : ∀ (d : Nat), d ≤ 10 →
    ∀ (v wv : Value) (pts : List Int) (N : Int) (f : Nat → Nat → Int) (w : World), Seen w0 w v pts → IsNatF w wv N → CIn w0 w n d pts N P Q f → Calls Try.prog 31 #[v, vl, .int .i64 (d : Int), wv, .slice (some ⟨P, 0, none⟩) n n] w (CRes w0 w n l d pts N P Q f)
  | 0, _ => fun v wv pts N f w hv hw hc => count_zero n l w0 vl P Q n4 hQ v wv pts N f w hv hw hc
  | d + 1, hd => fun v wv pts N f w hv hw hc => count_succ n l ok w0 vl hl P Q n0 n4 d (by omega) (count_any n l ok w0 vl hl P Q n0 n4 hQ d (by omega)) v wv pts N f w hv hw hc
end Go.Proofs.Ytomgilkchlediaa
