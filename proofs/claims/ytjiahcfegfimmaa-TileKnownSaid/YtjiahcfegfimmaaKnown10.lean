/-
  Walks of Wall, the program's and the reference's.
-/
import Derived.Test.YtjiahcfegfimmaaKnown04
import Derived.Test.YtjiahcfegfimmaaKnown08
import Derived.Test.YtjiahcfegfimmaaKnown09
import Derived.Deep.WholeRow
import Derived.Outline
namespace Go.Proofs.Ytjiahcfegfimmaa
open Go.RowKit

def IntsRes (w : World) (zs : List Int) (e : Ending) (w' : World) : Prop := ∃ v, e = .returned v ∧ IsInts w' v zs ∧ Grow w w'
noncomputable def wallI (s : TSet) (seed : Int) : List Int := shuf ((sizeI s).toNat - 1) seed (upto (sizeI s).toNat)
theorem wall_length (s : TSet) (seed : Int) : (wallI s seed).length = (sizeI s).toNat := by unfold wallI; rw [shuf_length, upto_length]
theorem size_bound (s : TSet) : 0 ≤ sizeI s ∧ sizeI s ≤ 144 := by
  by_cases e : chkErr s = 0
  · have V := valid_of e
    have := V.tiles
    have := V.fl
    rw [size_ok e]; omega
  · rw [size_bad e]; omega
def zeros144 : Array Value := (ints (List.replicate 144 0)).toArray
theorem infoTiles : (Try.prog.info? 82).map (fun i => (i.zero, i.size)) = some (some (.agg zeros144), 144) := by kernel_rfl
/-- What the shuffle has still to do. -/
def WallSt (w : World) (T X : Nat) (n : Nat) (l : List Int) (i : Nat) (wr : World) : Prop :=
  ∃ (x : Int) (zs : List Int), Lcg wr X x ∧ Blk wr T 82 (ints zs) ∧ zs.length = 144 ∧ shuf i x (zs.take n) = l ∧ Grow w wr

set_option maxRecDepth 100000 in
set_option maxHeartbeats 4000000 in
theorem Wall_any (v : Value) (s : TSet) (seed : Int) (w : World) (h : IsSet w v s) : Calls Try.prog 23 #[v, .int .u64 seed] w (IntsRes w (wallI s seed)) := by
  have SZ := fun W (hg : Grow w W) => Size_any v s W (h.grow hg)
  have hb := size_bound s
  obtain ⟨n, hn⟩ := Int.eq_ofNat_of_zero_le hb.1
  have hn1 : n ≤ 144 := by omega
  rw [hn] at SZ
  have HW := hid (show shuf (n - 1) seed (upto n) = wallI s seed by unfold wallI; rw [hn, Int.toNat_natCast])
  have SZ := hid SZ
  have HI := hid h
  obtain ⟨A, c, B, d, rfl, h1, h2⟩ := h.open_
  obtain ⟨_, _, e1, c1, m1, r1⟩ := h1
  obtain ⟨_, _, e2, d1, m2, r2⟩ := h2
  injection e1 with e1 _ e1'
  injection e2 with e2 _ e2'
  subst e1 e1' e2 e2'
  unfold maxLen at m1 m2
  have HG0 := hid (show Grow w (w.alloc (.cells #[.int .i64 s.pl, .slice A s.su.length c, .int .i64 s.wi, .int .i64 s.dr, .int .i64 s.fl, .int .i64 s.co, .int .i64 s.me, .int .i64 s.de, .slice B s.re.length d] 24)) from (Grow.refl w).alloc _)
  have HB0 := hid (show Blk (w.alloc (.cells #[.int .i64 s.pl, .slice A s.su.length c, .int .i64 s.wi, .int .i64 s.dr, .int .i64 s.fl, .int .i64 s.co, .int .i64 s.me, .int .i64 s.de, .slice B s.re.length d] 24)) w.heap.size 24 (setVals s (.slice A s.su.length c) (.slice B s.re.length d)) from heap_alloc_new w _)
  clear h
  obtain ⟨hz0, hz1⟩ := zero_of_info infoTiles
  have hz2 : (Value.agg zeros144).cells = zeros144 := rfl
  clear hb hn
  go_enter Try.func23, Try.ntmps23
  go_wp2_with (go_at_call 30; refine (SZ.out _ HG0.out).mono ?_; rintro e w1 ⟨rfl, hg1⟩; have hg := HG0.out.trans hg1)
  have bT0 : Blk (w1.alloc (.cells zeros144 82)) w1.heap.size 82 (ints (List.replicate 144 0)) := heap_alloc_new w1 _
  have hgA := hg.alloc (.cells zeros144 82)
  have hTw : w.heap.size ≤ w1.heap.size := hg.size
  generalize w1.alloc (.cells zeros144 82) = w2 at *
  generalize w1.heap.size = T at *
  have BT0 := hid (And.intro bT0 hgA)
  clear hz0 hz1 hz2 hg1 hg bT0 hgA
  go_loopw [7, 13] (fun _ i wr => ∃ (k : Nat) (zs : List Int), k ≤ 144 ∧ i = .int .i64 (k : Int) ∧ zs.length = 144 ∧ (∀ j (h : j < zs.length), j < k → zs[j] = (j : Int)) ∧ Blk wr T 82 (ints zs) ∧ Grow w wr) (fun _ i _ => 144 - (intOf i).toNat)
  case atStart => exact ⟨0, _, by omega, rfl, by simp, by simp, BT0.out.1, BT0.out.2⟩
  case round =>
    obtain ⟨k, zs, hk, rfl, hlz, hz, hb, hg⟩ := hrel
    have HL := hid hlz
    have HZ := hid hz
    by_cases hlt : k < 144
    · have hkl : k < zs.length := by omega
      have c0 := hb.cell_int hkl
      have f0 := hb.free k
      have i0 : (0 : Int) ≤ (k : Int) := by omega
      have i1 : (k : Int) < 144 := by omega
      have NEW := hid (And.intro (hb.set_int k (k : Int)) (hg.set (p := ⟨T, k, none⟩) hTw (.int .i64 (k : Int))))
      clear hlz hz hb hg
      go_wp2
      refine ⟨⟨k + 1, zs.set k (k : Int), by omega, by go_num, by rw [List.length_set]; exact HL.out, fun j hj hjk => ?_, NEW.out.1, NEW.out.2⟩, by simp only [intOf]; omega⟩
      by_cases e : j = k
      · subst e; rw [List.getElem_set_self]
      · rw [List.getElem_set_ne (by omega)]
        exact HZ.out j (by simpa using hj) (by omega)
    · have hk2 : 144 ≤ k := by omega
      have hge : ¬ (k : Int) < 144 := by omega
      have hup : zs.take n = upto n := List.ext_getElem (by rw [List.length_take, upto_length]; omega) fun j h1 h2 => by
        rw [List.getElem_take, upto_at]
        rw [List.length_take] at h1
        exact HZ.out j (by omega) (by omega)
      have hX : Lcg (wr.alloc (.cells #[.int .u64 seed] 83)) wr.heap.size seed := heap_alloc_new wr _
      have hTX : T < wr.heap.size := hb.lt
      have st0 : WallSt w T wr.heap.size n (shuf (n - 1) seed (upto n)) (n - 1) (wr.alloc (.cells #[.int .u64 seed] 83)) := ⟨seed, zs, hX, hb.grow ((Grow.refl _).alloc _), hlz, by rw [hup], hg.alloc _⟩
      have hXw : w.heap.size ≤ wr.heap.size := hg.size
      clear hlz hz hb hg hup hX
      go_wp2
      generalize wr.alloc (.cells #[.int .u64 seed] 83) = w3 at *
      generalize wr.heap.size = X at *
      rw [HW.out] at st0
      have ST0 := hid st0
      clear st0
      go_loopw [9, 10] (fun i _ wr => ∃ k : Int, -1 ≤ k ∧ k ≤ (n : Int) - 1 ∧ i = .int .i64 k ∧ WallSt w T X n (wallI s seed) k.toNat wr) (fun i _ _ => (intOf i + 1).toNat)
      case atStart => exact ⟨(n : Int) - 1, by omega, by omega, rfl, by rw [show ((n : Int) - 1).toNat = n - 1 by omega]; exact ST0.out⟩
      case round =>
        obtain ⟨k, hk0, hk1, rfl, x, zs, hx, hb, hlz, hsh, hg⟩ := hrel
        have HL := hid hlz
        by_cases hpos : 0 < k
        · obtain ⟨m, rfl⟩ : ∃ m : Nat, k = ((m + 1 : Nat) : Int) := ⟨k.toNat - 1, by omega⟩
          rw [Int.toNat_natCast, shuf] at hsh
          have HS := hid hsh
          have hvb := drawV_in (n := (m : Int) + 2) x (by omega)
          have hnk : ((m + 1 : Nat) : Int) + 1 = (m : Int) + 2 := by omega
          have BL := hid (below_any X ((m : Int) + 2) x wr hx (by omega) (by omega))
          have hbb := hid (And.intro hb hg)
          clear hsh hlz hb hg hx
          obtain ⟨J, hJ⟩ := Int.eq_ofNat_of_zero_le hvb.1
          rw [hJ] at hvb
          have HJ := hid hJ
          have hJl : J < zs.length := by have := HL.out; omega
          have hml : m + 1 < zs.length := by have := HL.out; omega
          generalize hkk : ((m + 1 : Nat) : Int) = kk at *
          have HKK := hid hkk
          clear hkk hJ
          go_wp2_with fail
          refine BL.out.mono ?_
          rintro e w4 ⟨rfl, hx4, hb4⟩
          rw [HJ.out]
          have bT4 := hb4.blk hbb.out.1 (by omega)
          have g4 := hb4.grow hbb.out.2 hXw
          have cI := bT4.cell_int hml
          have cJ := bT4.cell_int hJl
          have fI := bT4.free (m + 1)
          have bT5 := bT4.set_int (m + 1) zs[J]
          have cJ5 := bT5.cell_int (show J < (zs.set (m + 1) zs[J]).length by simpa using hJl)
          have fJ5 := bT5.free J
          have bT6 := bT5.set_int J zs[m + 1]
          have g6 := (g4.set (p := ⟨T, m + 1, none⟩) hTw (.int .i64 zs[J])).set (p := ⟨T, J, none⟩) hTw (.int .i64 zs[m + 1])
          have hx6 : Lcg ((w4.setCell ⟨T, m + 1, none⟩ (.int .i64 zs[J])).setCell ⟨T, J, none⟩ (.int .i64 zs[m + 1])) X (drawX ((m : Int) + 2) x) := Blk.far (Blk.far hx4 (p := ⟨T, m + 1, none⟩) (by simp; omega) _) (p := ⟨T, J, none⟩) (by simp; omega) _
          have NEW := hid (show WallSt w T X n (wallI s seed) m ((w4.setCell ⟨T, m + 1, none⟩ (.int .i64 zs[J])).setCell ⟨T, J, none⟩ (.int .i64 zs[m + 1])).drew from ⟨drawX ((m : Int) + 2) x, (zs.set (m + 1) zs[J]).set J zs[m + 1], Blk.grow hx6 (Grow.refl _).drew, bT6.grow (Grow.refl _).drew, by rw [List.length_set, List.length_set]; exact HL.out, by
            have h := HS.out
            rw [HJ.out, Int.toNat_natCast, ← swapL_take (by omega) (by omega)] at h
            unfold swapL at h
            rwa [show zs.getD J 0 = zs[J] by simp [List.getD, hJl], show zs.getD (m + 1) 0 = zs[m + 1] by simp [List.getD, hml]] at h, g6.drew⟩)
          have hkt : kk.toNat = m + 1 := by have := HKK.out; omega
          have hk2 : 0 ≤ kk := by omega
          have hk3 : kk < 144 := by omega
          have hj2 : (0 : Int) ≤ (J : Int) := by omega
          have hj3 : (J : Int) < 144 := by omega
          clear hx4 hb4 bT4 g4 bT5 bT6 g6 hx6
          go_wp2
          go_region
          all_goals
            go_wp2
            exact ⟨⟨kk - 1, by omega, by omega, rfl, by rw [show (kk - 1).toNat = m by have := HKK.out; omega]; exact NEW.out⟩, by simp only [intOf]; omega⟩
        · have hk : k.toNat = 0 := by omega
          rw [hk] at hsh
          have hsh2 : zs.take n = wallI s seed := hsh
          have hi : IsInts wr (.slice (some ⟨T, 0, none⟩) n 144) (zs.take n) := ints_take (zs := zs) (by have := hb.is (by unfold maxLen; omega); rwa [hlz] at this ⊢) (by omega)
          have CL := hid (clone_any _ (zs.take n) wr hi (by rw [List.length_take]; omega))
          rw [hsh2] at CL
          have HG := hid hg
          have n0 : (0 : Int) ≤ (n : Int) := by omega
          have n1 : (n : Int) ≤ 144 := by omega
          clear hsh hsh2 hi hb hlz hx hg hk
          go_wp2_with (go_at_call 79; refine CL.out.mono ?_; rintro e w4 ⟨v4, rfl, ho, hg4⟩)
          go_ret
          exact ⟨v4, rfl, ho.is, HG.out.trans hg4⟩
end Go.Proofs.Ytjiahcfegfimmaa
