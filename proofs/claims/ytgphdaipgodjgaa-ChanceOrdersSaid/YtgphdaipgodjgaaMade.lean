/-
  Walks of UnseenOf and PlacesOf: counts and kinds made of numbers.
-/
import Derived.Test.YtgphdaipgodjgaaNatOf
namespace Go.Proofs.Ytgphdaipgodjgaa
open Go.RowKit

theorem sumI_set (l : List Int) {k : Nat} (z : Int) (h : k < l.length) : sumI (l.set k z) = sumI l + (z - l[k]) := by
  induction l generalizing k with
  | nil => simp at h
  | cons x l ih =>
    cases k with
    | zero => simp [sumI]; omega
    | succ k =>
      simp only [List.set_cons_succ, sumI_cons, List.getElem_cons_succ]
      rw [ih (by simpa using h)]; omega
theorem sumI_zeros (n : Nat) : sumI (List.replicate n 0) = 0 := by
  induction n with
  | zero => rfl
  | succ n ih => rw [List.replicate_succ, sumI_cons, ih]; rfl
theorem Within.set {lo hi : Int} {l : List Int} (h : Within lo hi l) (k : Nat) {z : Int} (hz : lo ≤ z ∧ z ≤ hi) : Within lo hi (l.set k z) := fun x hx => by
  rcases List.mem_or_eq_of_mem_set hx with hx | rfl
  · exact h x hx
  · exact hz
theorem Within.zeros {n : Nat} {lo hi : Int} (h0 : lo ≤ 0) (h1 : 0 ≤ hi) : Within lo hi (List.replicate n 0) := fun z hz => by
  have := List.eq_of_mem_replicate hz
  omega

/-- A list made of numbers: counts of kinds. -/
def UnseenRes (g : Nat) (K M : Int) (w : World) (e : Ending) (w' : World) : Prop :=
  ∃ G zs, e = .returned (.slice (some ⟨G, 0, none⟩) zs.length zs.length) ∧ Blk w' G 3 (ints zs) ∧ w.heap.size ≤ G ∧ (zs.length : Int) = K ∧ Within 0 4 zs ∧ sumI zs ≤ M ∧ Src w' g ∧ But g w w'

theorem unseen_fin {g G : Nat} {K M : Int} {w wr : World} {zs : List Int} (n : Nat) (hn : n = zs.length) (hb : Blk wr G 3 (ints zs)) (hG : w.heap.size ≤ G) (hl : (zs.length : Int) = K) (hw : Within 0 4 zs) (hm : sumI zs ≤ M) (hs : Src wr g) (hB : But g w wr) : UnseenRes g K M w (.returned (.slice (some ⟨G, 0, none⟩) n n)) wr := by
  subst hn
  exact ⟨G, zs, rfl, hb, hG, hl, hw, hm, hs, hB⟩

set_option maxRecDepth 100000 in
theorem UnseenOf_any (g K : Nat) (M : Int) (w : World) (hs : Src w g) (k1 : K ≤ 1000) (m0 : 0 ≤ M) (m1 : M ≤ 1000000) : Calls Try.prog 26 #[.pointer (some ⟨g, 0, none⟩), .int .i64 (K : Int), .int .i64 M] w (UnseenRes g K M w) := by
  have gl := hs.lt
  go_enter Try.func26, Try.ntmps26
  go_wp2_with (at_make; refine wpList_make_blk w _ rfl (.tmp 9) (.tmp 9) _ rfl 3 (.int .i64 0) 8 Try.underlying22 infoInt rfl _ _ _ _ K rfl rfl (by omega) (by omega) (by omega) (by omega) (Grow.refl _) ?_; intro G w1 hblk hG _ hg1 _)
  have hsz : G < w1.heap.size := hblk.lt
  have hne : G ≠ g := by omega
  go_loopw [2, 8] (fun q i wr => ∃ (k : Nat) (zs : List Int) (m : Int), k ≤ K ∧ i = .int .i64 (k : Int) ∧ q = .int .i64 m ∧ 0 ≤ m ∧ m + sumI zs = M ∧ Blk wr G 3 (ints zs) ∧ zs.length = K ∧ Within 0 4 zs ∧ (∀ j, k ≤ j → (h : j < zs.length) → zs[j] = 0) ∧ Src wr g ∧ But g w wr) (fun _ i _ => K - (intOf i).toNat)
  case atStart => exact ⟨0, List.replicate K 0, M, Nat.zero_le _, rfl, rfl, m0, by rw [sumI_zeros]; omega, by simpa [ints] using hblk, by simp, Within.zeros (by omega) (by omega), by simp, hs.grow hg1, But.of_grow hg1⟩
  case round =>
    clear hblk hg1
    obtain ⟨k, zs, m, hk, rfl, rfl, q0, qs, hb, hl, hw, hz, hs1, hb1⟩ := hrel
    have HL := hid hl
    have HQ := hid qs
    have hmm : m ≤ M := by have := hw.sum; omega
    by_cases hlt : k < K
    · have hkl : k < zs.length := by omega
      have hzk := hz k (Nat.le_refl _) hkl
      have HZ := hid hz
      have hset : ∀ z, sumI (zs.set k z) = sumI zs + z := fun z => by rw [sumI_set _ z hkl, hzk]; omega
      have HK := hid hset
      have i0 : (0 : Int) ≤ (k : Int) := by omega
      have i1 : (k : Int) < (K : Int) := by omega
      clear hset hzk hl hz qs
      go_wp2_with fail
      refine (Below_any g _ _ hs1 (by omega)).mono ?_
      rintro e w2 ⟨r, rfl, r0, r1, _, hs2, hb2⟩
      have r2 := r1 (by omega)
      clear r1
      have bb := hb2.blk hb hne
      have hc := bb.cell_int hkl
      have hf := bb.free k
      obtain ⟨t, ht⟩ : ∃ t, t = if m < r then m else r := ⟨_, rfl⟩
      have t0 : 0 ≤ t ∧ t ≤ 4 ∧ t ≤ m := by rw [ht]; split <;> omega
      have f1 : IntKind.i64.wrap (m - t) = m - t := IntWalk.i64_in _ (by omega)
      have hb3 := bb.set_int k t
      have hc3 := hb3.cell_int (show k < (zs.set k t).length by simpa using hkl)
      have hf3 := hb3.free k
      have hs3 := hs2.setFar (p := ⟨G, k, none⟩) (by simp; omega) (.int .i64 t)
      have hB3 := (hb1.trans hb2).setNew (p := ⟨G, k, none⟩) hG (.int .i64 t)
      simp only [List.getElem_set_self] at hc3
      go_wp2
      rw [← ht]
      refine ⟨⟨k + 1, zs.set k t, m - t, by omega, by go_num, rfl, by omega, by rw [HK.out]; have := HQ.out; omega, hb3, by rw [List.length_set]; exact HL.out, hw.set k ⟨t0.1, t0.2.1⟩, ?_, hs3, hB3⟩, by simp only [intOf]; omega⟩
      intro j hj hjl
      rw [List.getElem_set_ne (by omega)]
      exact HZ.out j (by omega) (by simpa using hjl)
    · have hs2 : sumI zs ≤ M := by omega
      have FIN := hid (unseen_fin (M := M) (K := K) K HL.out.symm hb hG (by omega) hw hs2 hs1 hb1)
      clear hl hz qs
      go_wp2
      go_ret
      exact FIN.out

theorem ris_snoc {many k : Int} : ∀ {l : List Int} {p : Int}, risErr many p l = 0 → (∀ z ∈ l, z < k) → p < k → 0 ≤ k → k < many → risErr many p (l ++ [k]) = 0 := by
  intro l
  induction l with
  | nil => intro p _ _ h1 h2 h3; simp only [List.nil_append]; unfold risErr; rw [if_neg (by omega), if_neg (by omega)]; rfl
  | cons x l ih =>
    intro p h hz h1 h2 h3
    have hx := ris_in h x (by simp)
    have h' := h
    unfold risErr at h'
    rw [if_neg (by omega), if_neg (by omega)] at h'
    rw [List.cons_append]
    unfold risErr
    rw [if_neg (by omega), if_neg (by omega)]
    exact ih h' (fun z hz' => hz z (by simp [hz'])) (hz x (by simp)) h2 h3

/-- Kinds made of numbers. -/
def PlacesRes (g : Nat) (K : Int) (w : World) (e : Ending) (w' : World) : Prop :=
  ∃ v ks, e = .returned v ∧ IsIntsF w' v ks ∧ risErr K (-1) ks = 0 ∧ Src w' g ∧ But g w w'

set_option maxRecDepth 100000 in
theorem PlacesOf_any (g K : Nat) (n : Int) (w : World) (hs : Src w g) (k1 : K ≤ 1000) (hn : n ≤ 9223372036854775807) : Calls Try.prog 30 #[.pointer (some ⟨g, 0, none⟩), .int .i64 (K : Int), .int .i64 n] w (PlacesRes g K w) := by
  have gl := hs.lt
  go_enter Try.func30, Try.ntmps30
  go_wp2
  go_loopw [7, 8] (fun v i wr => ∃ (k : Nat) (os : List Int) (u : Value), u = v ∧ k ≤ K ∧ i = .int .i64 (k : Int) ∧ os.length ≤ k ∧ Own w wr v os ∧ risErr K (-1) os = 0 ∧ (∀ z ∈ os, z < (k : Int)) ∧ Src wr g ∧ But g w wr) (fun _ i _ => K - (intOf i).toNat)
  case atStart => exact ⟨0, [], _, rfl, Nat.zero_le _, rfl, Nat.zero_le _, Own.nil _ _, rfl, by simp, hs, But.refl _ _⟩
  case round =>
    obtain ⟨k, os, v, rfl, hk, rfl, hlk, ho, hr, hz, hs1, hb1⟩ := hrel
    have HR := hid hr
    have HZ := hid hz
    by_cases hlt : k < K
    · have i1 : (k : Int) < (K : Int) := by omega
      clear hr hz
      go_wp2_with fail
      refine (Odds_any g n _ hs1 hn).mono ?_
      rintro e w2 ⟨b, rfl, hs2, hb2⟩
      have ho2 := ho.but hb2 gl
      have hB2 := hb1.trans hb2
      have hsz := hB2.size
      have hl2 : os.length ≤ 1000000000000 := by omega
      have own := ho2.block
      obtain ⟨A, c, rfl, _⟩ := id ho2.is
      clear ho hb1 hb2
      cases b
      · go_wp2
        exact ⟨⟨k + 1, os, _, rfl, by omega, by go_num, by omega, ho2, HR.out, fun z hz => by have := HZ.out z hz; omega, hs2, hB2⟩, by simp only [intOf]; omega⟩
      · have OW := hid own
        clear own
        go_wp2_with (at_builtin; refine wpList_append_intS w _ (k : Int) rfl (.tmp 17) (.tmp 19) _ (by rfl) Try.underlying22 _ os (by rfl) ho2 (by rfl) hl2 hsz ?_; intro v' w' ho5 hg5)
        have gA : Grow w2 (w2.alloc (.cells #[.int .i64 (k : Int)] 3)) := (Grow.refl _).alloc _
        refine ⟨⟨k + 1, os ++ [(k : Int)], _, rfl, by omega, by go_num, by simp; omega, ho5, ris_snoc HR.out HZ.out (by omega) (by omega) i1, fun z hz => ?_, (hs2.grow gA).own hg5 (fun e => by have := OW.out g e; omega), (hB2.trans (But.of_grow gA)).own hg5 OW.out⟩, by simp only [intOf]; omega⟩
        rcases List.mem_append.1 hz with h | h
        · have := HZ.out z h; omega
        · simp at h; omega
    · have FIN := hid (show PlacesRes g K w (.returned v) wr from ⟨v, os, rfl, ho.F, hr, hs1, hb1⟩)
      clear hr hz
      go_wp2
      go_ret
      exact FIN.out
end Go.Proofs.Ytgphdaipgodjgaa
