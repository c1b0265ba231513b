/-
  Walks: some and Any.
-/
import Derived.Test.YtomgilkchlediaaGreatDoorAny
namespace Go.Proofs.YtomgilkchlediaaGreatDoor
open Go.RowKit

/-- How many draws of n of N tiles have at least one of m. -/
def anyWays (N m n : Int) : Int := chooseI N n - chooseI (N - m) n

theorem IsNatF.open_ {w : World} {v : Value} {n : Int} (h : IsNatF w v n) : ∃ A m c, v = .slice A m c := by
  obtain ⟨⟨_, _, _, A, c, rfl, _⟩, _⟩ := h
  exact ⟨A, _, c, rfl⟩

theorem But.rdG {g : Nat} {w w' : World} {e e' : TypeId} {cs : Array Value} (h : But g w w') (hx : w.heap[g]? = some (.cells cs e' (0, 0))) {A : Option Addr} {ys : List Value} {m c : Nat} (hr : Rd w A ys) (ht : Tag w e (.slice A m c)) (hne : e ≠ e') : Rd w' A ys := fun i u hu => by
  obtain ⟨ad, rfl, hb, hc⟩ := hr i u hu
  obtain ⟨cur, hcur⟩ := ht ad m c rfl
  have hk : w'.heap[ad.block]? = w.heap[ad.block]? := by
    refine h.block _ hb fun he => ?_
    have he : ad.block = g := by injection he
    rw [he, hx] at hcur
    injection hcur with hcur
    injection hcur with _ hcur
    exact hne hcur.symm
  refine ⟨ad, rfl, Nat.lt_of_lt_of_le hb h.size, ?_⟩
  rw [World.cell?_of_block (w := w) (by rw [block_add]; exact hk)]
  exact hc
theorem But.tagG {g : Nat} {w w' : World} {e e' : TypeId} {cs : Array Value} (h : But g w w') (hx : w.heap[g]? = some (.cells cs e' (0, 0))) {v : Value} (ht : Tag w e v) (hne : e ≠ e') : Tag w' e v := fun ad m c hv => by
  obtain ⟨cur, hcur⟩ := ht ad m c hv
  refine ⟨cur, (h.block _ (lt_of_block hcur) fun he => ?_).trans hcur⟩
  have he : ad.block = g := by injection he
  rw [he, hx] at hcur
  injection hcur with hcur
  injection hcur with _ hcur
  exact hne hcur.symm
theorem IsNatF.butG {g : Nat} {w w' : World} {e' : TypeId} {cs : Array Value} {v : Value} {n : Int} (h : IsNatF w v n) (k : But g w w') (hx : w.heap[g]? = some (.cells cs e' (0, 0))) (hne : 3 ≠ e') : IsNatF w' v n := by
  obtain ⟨⟨zs, h1, h2, A, c, rfl, h3, h4, h5⟩, ht⟩ := h
  exact ⟨⟨zs, h1, h2, A, c, rfl, h3, h4, k.rdG hx h5 ht hne⟩, k.tagG hx ht hne⟩

def OddsVal (w : World) (a b : Int) (e : Ending) (w' : World) : Prop := ∃ v, e = .returned v ∧ IsOdds w' v a b ∧ Grow w w'

theorem some_any (v1 v2 : Value) (u ks : List Int) (n : Int) (w : World) (h1 : IsInts w v1 u) (h2 : IsInts w v2 ks) (hu : Within 0 4 u) (hl : u.length ≤ 34) (hk : risErr u.length (-1) ks = 0) (hlo : -9223372036854775000 ≤ n) :
    Calls Tryz.prog 55 #[v1, v2, .int .i64 n] w (OddsVal w (anyWays (sumI u) (sumAt u ks) n) (chooseI (sumI u) n)) := by
  have hall := fun W (hg : Grow w W) => all_any v1 u W (h1.grow hg) (fun z hz => by have := hu z hz; omega) (by omega)
  have hs := hu.sum
  have hs1 : 0 ≤ sumI u ∧ sumI u ≤ 136 := by omega
  have hat := sumAt_le (fun z hz => (hu z hz).1) hk (by omega)
  have hat0 : ∀ k, 0 ≤ sumAt u (ks.take k) ∧ sumAt u (ks.take k) ≤ 4 * k := by
    intro k
    have hw : Within 0 4 ((ks.take k).map fun z => u.getD z.toNat 0) := fun z hz => by
      obtain ⟨y, hy, rfl⟩ := List.mem_map.1 hz
      have hy' := ris_in hk y (List.mem_of_mem_take hy)
      rw [List.getD_eq_getElem?_getD, List.getElem?_eq_getElem (show y.toNat < u.length by omega)]
      exact hu _ (List.getElem_mem _)
    have h3 := hw.sum
    rw [List.length_map, List.length_take] at h3
    have e : sumI ((ks.take k).map fun z => u.getD z.toNat 0) = sumAt u (ks.take k) := rfl
    rw [e] at h3
    omega
  obtain ⟨A, c, rfl, hc, hm, hr⟩ := h1
  obtain ⟨B, d, rfl, hd, hm', hrk⟩ := h2
  unfold maxLen at hm hm'
  have HA := hid hall
  have HU := hid hu
  have HK := hid hk
  have HAT := hid hat
  have HA0 := hid hat0
  have hN : ∃ N, N = sumI u := ⟨_, rfl⟩
  obtain ⟨N, hN⟩ := hN
  rw [← hN] at hs1
  have HN := hid hN
  have hksl : ks.length ≤ 34 := by have := ris_len hk (by omega); omega
  clear hall hu hk hat hat0 hs hN
  go_enter Tryz.func55, Tryz.ntmps55
  go_wp2_with (go_at_call 54; refine (HA.out _ ((Grow.refl _).alloc _)).mono ?_; rintro e w1 ⟨rfl, rfl⟩)
  rw [← HN.out]
  go_loop [7, 15] (fun o i => ∃ k : Nat, k ≤ ks.length ∧ i = .int .i64 (k : Int) ∧ o = .int .i64 (N - sumAt u (ks.take k))) (fun _ i => ks.length - (intOf i).toNat)
  case atStart => exact ⟨0, Nat.zero_le _, rfl, by simp [sumAt, sumI]⟩
  case round =>
    obtain ⟨k, hk, rfl, rfl⟩ := hrel
    obtain ⟨a0, a1⟩ := HA0.out k
    by_cases hlt : k < ks.length
    · obtain ⟨ad, rfl, hb, hx⟩ := (hrk.grow ((Grow.refl w).alloc (.cells #[.slice none 0 0, .slice none 0 0] 43))).int hlt
      have hin := ris_in HK.out ks[k] (List.getElem_mem hlt)
      have hil : ks[k].toNat < u.length := by omega
      obtain ⟨ad', rfl, hb', hx'⟩ := (hr.grow ((Grow.refl w).alloc (.cells #[.slice none 0 0, .slice none 0 0] 43))).int hil
      have bu := HU.out.at_ hil
      have HS := hid (sumAt_take u ks hlt)
      have HG := hid (show u.getD ks[k].toNat 0 = u[ks[k].toNat] by rw [List.getD_eq_getElem?_getD, List.getElem?_eq_getElem hil]; rfl)
      go_wp2
      exact ⟨⟨k + 1, by omega, by go_num, by rw [HS.out, HG.out]; go_num⟩, by simp only [intOf]; omega⟩
    · have e : ks.take k = ks := List.take_of_length_le (by omega)
      have HE := hid e
      obtain ⟨a2, a3⟩ := HAT.out
      have a4 : sumAt u ks ≤ N := by rw [HN.out]; simpa using a3
      rw [e] at *
      generalize sumAt u ks = M at *
      have hle : chooseI (N - M) n ≤ chooseI N n := chooseI_mono n (by omega) (by omega)
      have HLE := hid hle
      clear e hle a3
      have g0 : Grow w (w.alloc (.cells #[.slice none 0 0, .slice none 0 0] 43)) := (Grow.refl w).alloc _
      go_wp2_with fail
      refine (HA.out _ g0).mono ?_
      rintro e w1 ⟨rfl, rfl⟩
      rw [← HN.out]
      go_wp2_with fail
      refine (choose_any N n _ (by omega) hlo).mono ?_
      rintro e w2 ⟨v2, rfl, hn2, hg2⟩
      go_wp2_with fail
      refine (choose_any (N - M) n _ (by omega) hlo).mono ?_
      rintro e w3 ⟨v3, rfl, hn3, hg3⟩
      go_wp2_with fail
      refine (lessN_any _ _ _ _ _ (hn2.1.grow hg3) hn3.1 (chooseI_small n (by omega)) HLE.out).mono ?_
      rintro e w4 ⟨v4, rfl, hn4, hg4⟩
      have hg5 := (hg2.trans hg3).trans hg4
      have q0 : w4.cell? ⟨w.heap.size, 0, none⟩ = some (.slice none 0 0) := hg5.cell_some (by simp)
      have q1 : w4.cell? ⟨w.heap.size, 1, none⟩ = some (.slice none 0 0) := hg5.cell_some (by simp)
      have f0 : w4.frozen? ⟨w.heap.size, 0, none⟩ = false := by rw [hg5.frozen (by simp)]; simp
      have f1 : w4.frozen? ⟨w.heap.size, 1, none⟩ = false := by rw [hg5.frozen (by simp)]; simp
      have hsz := hg5.size
      obtain ⟨A2, m2, c2, rfl⟩ := hn2.open_
      obtain ⟨A4, m4, c4, rfl⟩ := hn4.open_
      go_wp2
      have hblk : w4.heap[w.heap.size]? = some (.cells #[.slice none 0 0, .slice none 0 0] 43 (0, 0)) := hg5.blk_some (heap_alloc_new w _)
      have hbut : ∀ a b, But w.heap.size w4 ((w4.setCell ⟨w.heap.size, 0, none⟩ a).setCell ⟨w.heap.size, 1, none⟩ b) := fun a b => ((But.refl _ _).set 0 a).set 1 b
      refine bodyPost_ret (v := .agg #[.slice A4 m4 c4, .slice A2 m2 c2]) (by simp [results, Tryz.results55, go_sem, q0, q1]) rfl ⟨_, rfl, ⟨_, _, rfl, ?_, ?_⟩, ?_⟩
      · rw [← HN.out]
        exact hn4.butG (hbut _ _) hblk (by decide)
      · rw [← HN.out]
        exact ((hn2.grow hg3).grow hg4).butG (hbut _ _) hblk (by decide)
      · exact ((g0.trans hg5).set (Nat.le_refl _) _).set (Nat.le_refl _) _

/-- The error of Any. -/
def anyErr (u ks : List Int) (n : Int) : Int := if unErr u = 0 then (if risErr u.length (-1) ks = 0 then (if n < 0 ∨ sumI u < n then 2 else 0) else risErr u.length (-1) ks) else unErr u
/-- Odds and an error. -/
def OddsErr (w : World) (a b er : Int) (e : Ending) (w' : World) : Prop := ∃ v, e = .returned (.tuple #[v, .int .i64 er]) ∧ IsOdds w' v a b ∧ Grow w w'
/-- What Any answers. -/
def AnyRes (w : World) (u ks : List Int) (n : Int) (e : Ending) (w' : World) : Prop := OddsErr w (if anyErr u ks n = 0 then anyWays (sumI u) (sumAt u ks) n else 0) (if anyErr u ks n = 0 then chooseI (sumI u) n else 0) (anyErr u ks n) e w'
theorem IsOdds.nil {w : World} : IsOdds w (.agg #[.slice none 0 0, .slice none 0 0]) 0 0 := ⟨_, _, rfl, IsNatF.nil, IsNatF.nil⟩

/-- The block of a result of odds, in a world that has grown. -/
theorem odds_block {w W : World} (h : Grow (w.alloc (.cells #[.slice none 0 0, .slice none 0 0] 43)) W) :
    W.heap[w.heap.size]? = some (.cells #[.slice none 0 0, .slice none 0 0] 43 (0, 0)) ∧ W.cell? ⟨w.heap.size, 0, none⟩ = some (.slice none 0 0) ∧ W.cell? ⟨w.heap.size, 1, none⟩ = some (.slice none 0 0) ∧
      W.frozen? ⟨w.heap.size, 0, none⟩ = false ∧ W.frozen? ⟨w.heap.size, 1, none⟩ = false ∧ (∀ a b, But w.heap.size W ((W.setCell ⟨w.heap.size, 0, none⟩ a).setCell ⟨w.heap.size, 1, none⟩ b)) ∧ (∀ a b, Grow w ((W.setCell ⟨w.heap.size, 0, none⟩ a).setCell ⟨w.heap.size, 1, none⟩ b)) :=
  ⟨h.blk_some (heap_alloc_new w _), h.cell_some (by simp), h.cell_some (by simp), by rw [h.frozen (by simp)]; simp, by rw [h.frozen (by simp)]; simp, fun a b => ((But.refl _ _).set 0 a).set 1 b,
    fun a b => ((((Grow.refl w).alloc _).trans h).set (Nat.le_refl _) a).set (Nat.le_refl _) b⟩

theorem Any_any (v1 v2 : Value) (u ks : List Int) (n : Int) (w : World) (h1 : IsInts w v1 u) (h2 : IsInts w v2 ks) :
    Calls Tryz.prog 22 #[v1, v2, .int .i64 n] w (AnyRes w u ks n) := by
  have hun := fun W (hg : Grow w W) => unseen_any v1 u W (h1.grow hg)
  have hri := fun W (hg : Grow w W) => rising_any v2 ks u.length W (h2.grow hg)
  have hfin : ∀ er v wf, anyErr u ks n = er → er ≠ 0 → v = .agg #[.slice none 0 0, .slice none 0 0] → Grow w wf → AnyRes w u ks n (.returned (.tuple #[v, .int .i64 er])) wf := fun er v wf he hne hv hg => by
    subst hv
    unfold AnyRes
    rw [if_neg (by rw [he]; exact hne), if_neg (by rw [he]; exact hne), he]
    exact ⟨_, rfl, IsOdds.nil, hg⟩
  have g0 : Grow w (w.alloc (.cells #[.slice none 0 0, .slice none 0 0] 43)) := (Grow.refl w).alloc _
  obtain ⟨A, c, rfl, hcA⟩ := id h1
  obtain ⟨B, d, rfl, _⟩ := id h2
  have HF := hid hfin
  have HU := hid hun
  have HR := hid hri
  clear hfin hun hri
  by_cases e1 : unErr u = 0
  · rw [e1] at HU
    by_cases e2 : risErr u.length (-1) ks = 0
    · rw [e2] at HR
      have hall := fun W (hg : Grow w W) => all_any _ u W (h1.grow hg) (fun z hz => by have := (unErr_ok e1).2.2 z hz; omega) (by have := (unErr_ok e1).2.1; omega)
      have hsum := sum_un e1
      by_cases e3 : n < 0
      · have HE := hid (show anyErr u ks n = 2 from by unfold anyErr; rw [if_pos e1, if_pos e2, if_pos (.inl e3)])
        clear e1 e2 hall h1 h2
        go_enter Tryz.func22, Tryz.ntmps22
        go_wp2_with fail
        refine (HU.out _ g0).mono ?_
        rintro e w1 ⟨rfl, hg1⟩
        obtain ⟨b0, q0, q1, f0, f1, bb, bg⟩ := odds_block hg1
        go_wp2_with (go_at_call 53; refine (HR.out _ (g0.trans hg1)).mono ?_; rintro e w2 ⟨rfl, rfl⟩)
        refine bodyPost_ret (v := .tuple #[.agg #[.slice none 0 0, .slice none 0 0], .int .i64 2]) (by simp [results, Tryz.results22, go_sem, q0, q1]) rfl (HF.out 2 _ _ HE.out (by omega) rfl (bg _ _))
      · have HA := hid hall
        generalize hN : sumI u = N at *
        by_cases e4 : N < n
        · have HE := hid (show anyErr u ks n = 2 from by unfold anyErr; rw [if_pos e1, if_pos e2, hN, if_pos (.inr e4)])
          clear e1 e2 hall h1 h2 hN
          go_enter Tryz.func22, Tryz.ntmps22
          go_wp2_with fail
          refine (HU.out _ g0).mono ?_
          rintro e w1 ⟨rfl, hg1⟩
          obtain ⟨b0, q0, q1, f0, f1, bb, bg⟩ := odds_block hg1
          go_wp2_with (first
            | (go_at_call 53; refine (HR.out _ (g0.trans hg1)).mono ?_; rintro e w2 ⟨rfl, rfl⟩)
            | (go_at_call 54; refine (HA.out _ (g0.trans hg1)).mono ?_; rintro e w2 ⟨rfl, rfl⟩))
          refine bodyPost_ret (v := .tuple #[.agg #[.slice none 0 0, .slice none 0 0], .int .i64 2]) (by simp [results, Tryz.results22, go_sem, q0, q1]) rfl (HF.out 2 _ _ HE.out (by omega) rfl (bg _ _))
        · have he : anyErr u ks n = 0 := by unfold anyErr; rw [if_pos e1, if_pos e2, hN, if_neg (by omega)]
          have hsome := fun W (hg : Grow w W) => some_any _ _ u ks n W (h1.grow hg) (h2.grow hg) (unErr_ok e1).2.2 (unErr_ok e1).2.1 e2 (by omega)
          rw [hN] at hsome
          have HS := hid hsome
          have HE := hid he
          have HNN := hid hN
          clear e1 e2 hall h1 h2 hN hsome he
          go_enter Tryz.func22, Tryz.ntmps22
          go_wp2_with fail
          refine (HU.out _ g0).mono ?_
          rintro e w1 ⟨rfl, hg1⟩
          go_wp2_with (first
            | (go_at_call 53; refine (HR.out _ (g0.trans hg1)).mono ?_; rintro e w2 ⟨rfl, rfl⟩)
            | (go_at_call 54; refine (HA.out _ (g0.trans hg1)).mono ?_; rintro e w2 ⟨rfl, rfl⟩)
            | (go_at_call 55; refine (HS.out _ (g0.trans hg1)).mono ?_; rintro e w2 ⟨v, rfl, ⟨x1, x2, rfl, k1, k2⟩, hg2⟩; obtain ⟨A1, m1, c1, rfl⟩ := k1.open_; obtain ⟨A2, m2, c2, rfl⟩ := k2.open_; obtain ⟨b0, q0, q1, f0, f1, bb, bg⟩ := odds_block (hg1.trans hg2)))
          refine bodyPost_ret (v := .tuple #[.agg #[.slice A1 m1 c1, .slice A2 m2 c2], .int .i64 0]) (by simp [results, Tryz.results22, go_sem, q0, q1]) rfl ?_
          unfold AnyRes
          rw [HE.out, if_pos rfl, if_pos rfl, HNN.out]
          exact ⟨_, rfl, ⟨_, _, rfl, k1.butG (bb _ _) b0 (by decide), k2.butG (bb _ _) b0 (by decide)⟩, bg _ _⟩
    · have HE := hid (show anyErr u ks n = risErr u.length (-1) ks from by unfold anyErr; rw [if_pos e1, if_neg e2])
      have hne : (risErr u.length (-1) ks != 0) = true := by simp [e2]
      generalize risErr u.length (-1) ks = n2 at *
      have HN := hid e2
      clear e1 e2 h1 h2
      go_enter Tryz.func22, Tryz.ntmps22
      go_wp2_with fail
      refine (HU.out _ g0).mono ?_
      rintro e w1 ⟨rfl, hg1⟩
      obtain ⟨b0, q0, q1, f0, f1, bb, bg⟩ := odds_block hg1
      go_wp2_with (go_at_call 53; refine (HR.out _ (g0.trans hg1)).mono ?_; rintro e w2 ⟨rfl, rfl⟩)
      refine bodyPost_ret (v := .tuple #[.agg #[.slice none 0 0, .slice none 0 0], .int .i64 n2]) (by simp [results, Tryz.results22, go_sem, q0, q1]) rfl (HF.out n2 _ _ HE.out HN.out rfl (bg _ _))
  · have HE := hid (show anyErr u ks n = unErr u from by unfold anyErr; rw [if_neg e1])
    have hne : (unErr u != 0) = true := by simp [e1]
    generalize unErr u = n2 at *
    have HN := hid e1
    clear e1 h1 h2
    go_enter Tryz.func22, Tryz.ntmps22
    go_wp2_with fail
    refine (HU.out _ g0).mono ?_
    rintro e w1 ⟨rfl, hg1⟩
    obtain ⟨b0, q0, q1, f0, f1, bb, bg⟩ := odds_block hg1
    go_wp2
    refine bodyPost_ret (v := .tuple #[.agg #[.slice none 0 0, .slice none 0 0], .int .i64 n2]) (by simp [results, Tryz.results22, go_sem, q0, q1]) rfl (HF.out n2 _ _ HE.out HN.out rfl (bg _ _))
end Go.Proofs.YtomgilkchlediaaGreatDoor
