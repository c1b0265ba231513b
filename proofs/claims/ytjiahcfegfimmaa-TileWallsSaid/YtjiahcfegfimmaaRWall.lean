/-
  The walk of the reference's Wall.
-/
import Derived.Test.YtjiahcfegfimmaaWall
import Derived.Test.YtjiahcfegfimmaaKind
import Derived.Laws.OwnMore
import Derived.Outline
namespace Go.Proofs.Ytjiahcfegfimmaa
open Go.RowKit

theorem Own.store {w0 w : World} {g n cap : Nat} {zs : List Int} (h : Own w0 w (.slice (some ⟨g, 0, none⟩) n cap) zs) (j : Nat) (z : Int) : Own w0 (w.setCell ⟨g, j, none⟩ (.int .i64 z)) (.slice (some ⟨g, 0, none⟩) n cap) (zs.set j z) := by
  have hn : n = zs.length := by
    rcases h.2 with ⟨h', _⟩ | ⟨g', cap', cur, h', _⟩
    · cases h'
    · injection h'
  subst hn
  have h1 := (World.ownsRow.stored h j (.int .i64 z)).1
  unfold Own
  rw [List.length_set]
  show World.ownsRow _ _ _ _ _ _ ((zs.set j z).map (Value.int .i64))
  rw [List.map_set]
  exact h1
theorem Own.cellAt {w0 w : World} {g n cap : Nat} {zs : List Int} (h : Own w0 w (.slice (some ⟨g, 0, none⟩) n cap) zs) {j : Nat} (hj : j < zs.length) : w.cell? ⟨g, j, none⟩ = some (.int .i64 zs[j]) := by
  have hn : n = zs.length := by
    rcases h.2 with ⟨h', _⟩ | ⟨g', cap', cur, h', _⟩
    · cases h'
    · injection h'
  subst hn
  rw [World.ownsRow.cellAt h j (by omega)]
  simp [ints, hj]
theorem Own.frozenAt {w0 w : World} {g n cap : Nat} {zs : List Int} (h : Own w0 w (.slice (some ⟨g, 0, none⟩) n cap) zs) (j : Nat) : w.frozen? ⟨g, j, none⟩ = false := by
  have hn : n = zs.length := by
    rcases h.2 with ⟨h', _⟩ | ⟨g', cap', cur, h', _⟩
    · cases h'
    · injection h'
  subst hn
  exact World.ownsRow.frozenAt h j

set_option maxRecDepth 100000 in
set_option maxHeartbeats 4000000 in
theorem rWall_any (v : Value) (s : TSet) (seed : Int) (w : World) (h : IsSet w v s) : Calls Try.prog 24 #[v, .int .u64 seed] w (IntsRes w (wallI s seed)) := by
  have SZ := fun W (hg : Grow w W) => rSize_any v s W (h.grow hg)
  have hb := size_bound s
  obtain ⟨n, hn⟩ := Int.eq_ofNat_of_zero_le hb.1
  have hn1 : n ≤ 144 := by omega
  rw [hn] at SZ
  have HW := hid (show shuf (n - 1) seed (upto n) = wallI s seed by unfold wallI; rw [hn, Int.toNat_natCast])
  have SZ := hid SZ
  have HI := hid h
  obtain ⟨A, c, B, d, rfl, h1, h2⟩ := h.open_
  obtain ⟨_, _, e1, c1, m1, r1⟩ := h1
  obtain ⟨_, _, e2, d1, m2, r2⟩ := h2
  injection e1 with e1 _ e1'
  injection e2 with e2 _ e2'
  subst e1 e1' e2 e2'
  unfold maxLen at m1 m2
  have HG0 := hid (show Grow w (w.alloc (.cells #[.int .i64 s.pl, .slice A s.su.length c, .int .i64 s.wi, .int .i64 s.dr, .int .i64 s.fl, .int .i64 s.co, .int .i64 s.me, .int .i64 s.de, .slice B s.re.length d] 24)) from (Grow.refl w).alloc _)
  have HB0 := hid (show Blk (w.alloc (.cells #[.int .i64 s.pl, .slice A s.su.length c, .int .i64 s.wi, .int .i64 s.dr, .int .i64 s.fl, .int .i64 s.co, .int .i64 s.me, .int .i64 s.de, .slice B s.re.length d] 24)) w.heap.size 24 (setVals s (.slice A s.su.length c) (.slice B s.re.length d)) from heap_alloc_new w _)
  clear h
  clear hb hn
  go_enter Try.func24, Try.ntmps24
  go_wp2
  generalize w.alloc (.cells #[.int .i64 s.pl, .slice A s.su.length c, .int .i64 s.wi, .int .i64 s.dr, .int .i64 s.fl, .int .i64 s.co, .int .i64 s.me, .int .i64 s.de, .slice B s.re.length d] 24) = wz at *
  go_loopw [5, 6] (fun v i wr => ∃ k : Nat, k ≤ n ∧ i = .int .i64 (k : Int) ∧ Own wz wr v (upto k) ∧ Grow wz wr) (fun _ i _ => n - (intOf i).toNat)
  case atStart => exact ⟨0, Nat.zero_le _, rfl, Own.nil _ _, Grow.refl _⟩
  case round =>
    obtain ⟨k, hk, rfl, ho, hg⟩ := hrel
    have HO := hid ho
    have HL := hid (upto_length k)
    obtain ⟨c0, c1, c2, c3, c4, c5, c6, c7, c8⟩ := set_cells (HB0.out.grow hg)
    clear ho
    by_cases hlt : k < n
    · go_wp2_with (first
        | (go_at_call 42; refine (SZ.out _ (HG0.out.trans hg)).mono ?_; rintro e w1 ⟨rfl, hg1⟩; have hgg := hg.trans hg1)
        | (at_builtin; refine wpList_append_int wz w1 _ rfl (.tmp 17) (.tmp 19) _ rfl Try.underlying22 _ (upto k) rfl (HO.out.kept hg1) rfl (by rw [HL.out]; omega) hgg ?_; intro v' w' ho' hg'))
      exact ⟨⟨k + 1, by omega, by go_num, by rw [upto_succ]; exact ho', hg'⟩, by simp only [intOf]; omega⟩
    · obtain rfl : k = n := by omega
      by_cases h2 : 2 ≤ k
      · obtain ⟨g, cap, rfl, hgz, hcap, hmax⟩ := HO.out.form (by rw [HL.out]; omega)
        have HL2 := HL.out
        rw [HL2] at hcap
        rw [HL2]
        unfold maxLen at hmax
        have HO' := HO.out
        rw [HL2] at HO'
        have HO2 := hid HO'
        have ge : ¬ (k : Int) < (k : Int) := by omega
        clear HL2 HO'
        go_wp2_with (first
          | (go_at_call 42; refine (SZ.out _ (HG0.out.trans hg)).mono ?_; rintro e w1 ⟨rfl, hg1⟩; have hgg := hg.trans hg1))
        have HO3 := hid (HO2.out.kept hg1)
        go_loopw [7, 8] (fun x i wr => ∃ (xx : Int) (j : Nat) (zs : List Int), j ≤ k - 1 ∧ x = .int .u64 xx ∧ i = .int .i64 (j : Int) ∧ zs.length = k ∧ shuf j xx zs = wallI s seed ∧ Own wz wr (.slice (some ⟨g, 0, none⟩) k cap) zs ∧ Grow wz wr) (fun _ i _ => (intOf i).toNat)
        case atStart => exact ⟨seed, k - 1, upto k, by omega, rfl, by rw [show ((k - 1 : Nat) : Int) = (k : Int) - 1 by omega], HL.out, HW.out, HO3.out, hgg⟩
        case round =>
          obtain ⟨x, j, zs, hj, rfl, rfl, hlz, hsh, ho, hgr⟩ := hrel
          have HLZ := hid hlz
          have HSH := hid hsh
          have HOO := hid ho
          by_cases hpos : 0 < j
          · obtain ⟨m, rfl⟩ : ∃ m, j = m + 1 := ⟨j - 1, by omega⟩
            rw [shuf] at hsh
            have HS := hid hsh
            have hvb := drawV_in (n := (m : Int) + 2) x (by omega)
            have BL := hid (fun W => Draw_any ((m : Int) + 2) x W (by omega) (by omega))
            obtain ⟨J, hJ⟩ := Int.eq_ofNat_of_zero_le hvb.1
            rw [hJ] at hvb
            have HJ := hid hJ
            have hJl : J < zs.length := by omega
            have hml : m + 1 < zs.length := by omega
            have cI := ho.cellAt hml
            have cJ := ho.cellAt hJl
            have fI := ho.frozenAt (m + 1)
            have o5 := ho.store (m + 1) zs[J]
            have cJ5 := o5.cellAt (show J < (zs.set (m + 1) zs[J]).length by simpa using hJl)
            have fJ5 := o5.frozenAt J
            have o6 := o5.store J zs[m + 1]
            have g6 := (hgr.set (p := ⟨g, m + 1, none⟩) hgz (.int .i64 zs[J])).set (p := ⟨g, J, none⟩) hgz (.int .i64 zs[m + 1])
            have NEW := hid (show shuf m (drawX ((m : Int) + 2) x) ((zs.set (m + 1) zs[J]).set J zs[m + 1]) = wallI s seed by
              have h := HS.out
              rw [HJ.out, Int.toNat_natCast] at h
              unfold swapL at h
              rwa [show zs.getD J 0 = zs[J] by simp [List.getD, hJl], show zs.getD (m + 1) 0 = zs[m + 1] by simp [List.getD, hml]] at h)
            have NEWO := hid (And.intro (o6.kept (Grow.refl _).drew) g6.drew)
            have hnk : ((m + 1 : Nat) : Int) + 1 = (m : Int) + 2 := by omega
            generalize hkk : ((m + 1 : Nat) : Int) = kk at *
            have HKK := hid hkk
            have hk2 : 0 ≤ kk := by omega
            have hk3 : kk < (k : Int) := by omega
            have hkt : kk.toNat = m + 1 := by omega
            have hk4 : 1 ≤ kk := by omega
            have hj2 : (0 : Int) ≤ (J : Int) := by omega
            have hj3 : (J : Int) < (k : Int) := by omega
            clear hkk hJ hsh hlz ho o5 o6 g6
            go_wp2_with fail
            refine (BL.out _).mono ?_
            rintro e w4 ⟨rfl, rfl⟩
            rw [HJ.out]
            go_wp2
            go_region
            all_goals
              go_wp2
              exact ⟨⟨_, m, _, by omega, rfl, by rw [show kk - 1 = (m : Int) by have := HKK.out; omega], by rw [List.length_set, List.length_set]; exact HLZ.out, NEW.out, NEWO.out.1, NEWO.out.2⟩, by simp only [intOf]; omega⟩
          · obtain rfl : j = 0 := by omega
            have HR := hid (show zs = wallI s seed from hsh)
            have HF := hid (HG0.out.trans hgr)
            clear hsh hlz ho
            go_wp2
            go_ret
            have ho := HOO.out.is
            rw [HR.out] at ho
            exact ⟨_, rfl, ho, HF.out⟩
      · obtain ⟨A9, c9, e9, _⟩ := HO.out.is
        subst e9
        have HK := hid HL.out
        have ge : ¬ (k : Int) < (k : Int) := by omega
        rw [HL.out]
        have HO' := HO.out
        rw [HL.out] at HO'
        have HO2 := hid HO'
        have HWW := hid (show upto k = wallI s seed by have := HW.out; rwa [show k - 1 = 0 by omega] at this)
        clear HO'
        go_wp2_with (first
          | (go_at_call 42; refine (SZ.out _ (HG0.out.trans hg)).mono ?_; rintro e w1 ⟨rfl, hg1⟩; have hgg := hg.trans hg1))
        have HO3 := hid (HO2.out.kept hg1)
        go_loopw [7, 8] (fun _ i wr => i = .int .i64 ((k : Int) - 1) ∧ Own wz wr (.slice A9 k c9) (upto k) ∧ Grow wz wr) (fun _ _ _ => 0)
        case atStart => exact ⟨rfl, HO3.out, hgg⟩
        case round =>
          obtain ⟨rfl, ho, hgr⟩ := hrel
          have HF := hid (HG0.out.trans hgr)
          have HOO := hid ho
          have hlt2 : ¬ (1 : Int) ≤ (k : Int) - 1 := by omega
          clear ho
          go_wp2
          go_ret
          have ho := HOO.out.is
          rw [HWW.out] at ho
          exact ⟨_, rfl, ho, HF.out⟩
end Go.Proofs.Ytjiahcfegfimmaa
