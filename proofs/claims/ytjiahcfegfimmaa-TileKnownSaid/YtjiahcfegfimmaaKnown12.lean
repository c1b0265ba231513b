/-
  Lists of lists of the call's own: one of them is appended to.
-/
import Derived.Test.YtjiahcfegfimmaaKnown11
import Derived.Tactics
namespace Go.Proofs.Ytjiahcfegfimmaa
open Go.RowKit

theorem Own.keep {w0 w w' : World} {v : Value} {l : List Int} (h : Own w0 w v l) (hk : ∀ k, v.ownBlock = some k → w'.heap[k]? = w.heap[k]?) : Own w0 w' v l := by
  refine ⟨h.1, ?_⟩
  rcases h.2 with hn | ⟨g, cap, cur, e, hb, hh, r⟩
  · exact .inl hn
  · exact .inr ⟨g, cap, cur, e, hb, (hk g (by rw [e]; rfl)).trans hh, r⟩
theorem Own.blk {w0 w : World} {v : Value} {l : List Int} (h : Own w0 w v l) {k : Nat} (hk : v.ownBlock = some k) : w0.heap.size ≤ k ∧ k < w.heap.size ∧ ∃ cur, w.heap[k]? = some (.cells cur 3 (0, 0)) := by
  rcases h.2 with ⟨e, _⟩ | ⟨g, cap, cur, e, hb, hh, r⟩
  · rw [e] at hk; cases hk
  · rw [e] at hk
    have : k = g := by simpa [Value.ownBlock] using hk.symm
    subst this
    exact ⟨hb, lt_of_block hh, cur, hh⟩
/-- Lists of integers, each in a block of its own or nil. -/
structure Hands (w0 w : World) (G : Nat) (vs : List Value) (hs : List (List Int)) : Prop where
  len : vs.length = hs.length
  blk : Blk w G 22 vs
  base : w0.heap.size ≤ G
  own : ∀ (i : Nat) (v : Value) (l : List Int), vs[i]? = some v → hs[i]? = some l → Own w0 w v l
  apart : ∀ (i j : Nat) (v u : Value) (k : Nat), i ≠ j → vs[i]? = some v → vs[j]? = some u → v.ownBlock = some k → u.ownBlock ≠ some k
theorem Hands.ne {w0 w : World} {G : Nat} {vs : List Value} {hs : List (List Int)} (h : Hands w0 w G vs hs) {i : Nat} {v : Value} (hv : vs[i]? = some v) : v.ownBlock ≠ some G := fun e => by
  have hi := (List.getElem?_eq_some_iff.1 hv).1
  have hi2 : i < hs.length := by have := h.len; omega
  have ho := h.own i v hs[i] hv (List.getElem?_eq_getElem hi2)
  obtain ⟨_, _, cur, hc⟩ := ho.blk e
  have hb : w.heap[G]? = some (.cells vs.toArray 22 (0, 0)) := h.blk
  rw [hc] at hb
  injection hb with hb
  injection hb with _ hb
  exact absurd hb (by decide)
theorem Hands.grow {w0 w w' : World} {G : Nat} {vs : List Value} {hs : List (List Int)} (h : Hands w0 w G vs hs) (g : Grow w w') : Hands w0 w' G vs hs :=
  ⟨h.len, h.blk.grow g, h.base, fun i v l hv hl => (h.own i v l hv hl).keep fun _ hk => g.blk ((h.own i v l hv hl).blk hk).2.1, h.apart⟩
/-- One list has grown. -/
theorem Hands.append {w0 w w1 : World} {G : Nat} {vs : List Value} {hs : List (List Int)} (h : Hands w0 w G vs hs) {i : Nat} {v v' : Value} {l zs : List Int} (hv : vs[i]? = some v) (hl : hs[i]? = some l)
    (ho : Own w0 w1 v' (l ++ zs)) (hg : w.grownBy w1 v.ownBlock) (ha : v'.ownBlock = v.ownBlock ∨ v'.ownBlock = some w.heap.size) : Hands w0 (w1.setCell ⟨G, i, none⟩ v') G (vs.set i v') (hs.set i (l ++ zs)) := by
  have hGne := h.ne hv
  have hb1 : Blk w1 G 22 vs := (hg.block G h.blk.lt (fun e => hGne e.symm)).trans h.blk
  have hi := (List.getElem?_eq_some_iff.1 hv).1
  have hG' : v'.ownBlock ≠ some G := by
    rcases ha with e | e
    · rw [e]; exact hGne
    · rw [e]; have := h.blk.lt; simp; omega
  refine ⟨by rw [List.length_set, List.length_set]; exact h.len, hb1.set i v', h.base, fun j u m hu hm => ?_, fun a b x y k hab hx hy hk => ?_⟩
  · by_cases e : i = j
    · subst e
      rw [List.getElem?_set_self hi] at hu
      rw [List.getElem?_set_self (by have := h.len; omega)] at hm
      injection hu with hu
      injection hm with hm
      subst hu hm
      exact ho.keep fun k hk => Below.heap_setCell _ _ _ _ (fun e => hG' (by rw [hk, e]))
    · rw [List.getElem?_set_ne e] at hu hm
      have hu0 := h.own j u m hu hm
      refine hu0.keep fun k hk => ?_
      have h1 : k ≠ G := fun e => h.ne hu (by rw [hk, e])
      have h2 : v.ownBlock ≠ some k := h.apart j i u v k (Ne.symm e) hu hv hk
      exact (Below.heap_setCell _ _ _ _ h1).trans (hg.block k (hu0.blk hk).2.1 (fun e => h2 e.symm))
  · have hx' : ∀ c (z : Value), c ≠ i → (vs.set i v')[c]? = some z → vs[c]? = some z := fun c z hc hz => by rwa [List.getElem?_set_ne (Ne.symm hc)] at hz
    have hfresh : ∀ c (z : Value), c ≠ i → vs[c]? = some z → z.ownBlock ≠ some w.heap.size := fun c z hc hz e => by
      have hc1 := (List.getElem?_eq_some_iff.1 hz).1
      have hc2 : c < hs.length := by have := h.len; omega
      have := ((h.own c z hs[c] hz (List.getElem?_eq_getElem hc2)).blk e).2.1
      omega
    by_cases ea : a = i
    · subst ea
      rw [List.getElem?_set_self hi] at hx
      injection hx with hx
      subst hx
      have hy' := hx' b y (Ne.symm hab) hy
      rcases ha with e | e
      · exact h.apart a b v y k hab hv hy' (by rw [← e]; exact hk)
      · intro hyk
        rw [e] at hk
        injection hk with hk
        subst hk
        exact hfresh b y (Ne.symm hab) hy' hyk
    · have hxa := hx' a x ea hx
      by_cases eb : b = i
      · subst eb
        rw [List.getElem?_set_self hi] at hy
        injection hy with hy
        subst hy
        rcases ha with e | e
        · rw [e]; exact h.apart a b x v k hab hxa hv hk
        · rw [e]
          intro he
          injection he with he
          exact hfresh a x ea hxa (by rw [hk, he])
      · exact h.apart a b x y k hab hxa (hx' b y eb hy) hk
theorem Hands.nils {w0 w : World} {G n : Nat} (hb : Blk w G 22 (List.replicate n (.slice none 0 0))) (hG : w0.heap.size ≤ G) : Hands w0 w G (List.replicate n (.slice none 0 0)) (List.replicate n []) :=
  ⟨by simp, hb, hG, fun i v l hv hl => by
    have hi := (List.getElem?_eq_some_iff.1 hv).1
    simp at hi
    have e1 : v = .slice none 0 0 := by simpa [hi] using hv.symm
    have e2 : l = [] := by simpa [hi] using hl.symm
    subst e1 e2
    exact Own.nil _ _, fun i j v u k _ hv _ hk => by
    have hi := (List.getElem?_eq_some_iff.1 hv).1
    simp at hi
    have e1 : v = .slice none 0 0 := by simpa [hi] using hv.symm
    rw [e1] at hk
    cases hk⟩
theorem results_tmp4 {fn : Func} {t u x y : Tmp} (h : fn.results = #[.tmp t, .tmp u, .tmp x, .tmp y]) (tmps : Array Value) (P : Program) (w : World) :
    (results fn tmps).run P w = .ok (.tuple #[tmps.getD t undef, tmps.getD u undef, tmps.getD x undef, tmps.getD y undef]) w := by simp [results, h]
theorem infoList : (Try.prog.info? 22).map (fun i => (i.zero, i.size, i.bytes)) = some (some (.slice none 0 0), 1, 24) := by kernel_rfl
theorem size_int (W : World) : (sizeOf 3).run Try.prog W = .ok 1 W := by
  obtain ⟨i0, hi0, _, hz1, _⟩ := info_parts infoInt
  simp [sizeOf, typeInfo, hi0, hz1]
theorem elem_ints {t : TypeId} (ht : Try.prog.underlying t = some (.slice 3)) : Try.prog.elem t = 3 := by simp [Program.elem, ht]
/-- Behind the first k. -/
theorem run_behind (t : TypeId) (ht : Try.prog.underlying t = some (.slice 3)) (ad : Addr) (n c k : Nat) (hk : k ≤ n) (hc : c ≠ k) (W : World) :
    (Instr.sliceAt t (.slice (some ad) n c) (some (.int .i64 (k : Int))) none none).run Try.prog W = .ok (.slice (some (ad.add k)) (n - k) (c - k)) W := by
  have ht' : Try.prog.underlying t = some (.slice (Try.prog.elem t)) := by rw [elem_ints ht]; exact ht
  rw [run_sliceAt_slice W t _ _ _ _ ht', run_slice_l W t _ _ _ ht' .i64 _ (by omega) (by omega), elem_ints ht, size_int]
  simp [Result.andThen, sliced, hc]
theorem run_first (t : TypeId) (ht : Try.prog.underlying t = some (.slice 3)) (ad : Addr) (n c k : Nat) (hc : k ≤ c) (W : World) :
    (Instr.sliceAt t (.slice (some ad) n c) none (some (.int .i64 (k : Int))) none).run Try.prog W = .ok (.slice (some ad) k c) W := by
  have ht' : Try.prog.underlying t = some (.slice (Try.prog.elem t)) := by rw [elem_ints ht]; exact ht
  rw [run_sliceAt_slice W t _ _ _ _ ht', run_slice_h W t _ _ _ ht' .i64 _ (by omega) (by omega), elem_ints ht, size_int]
  simp [Result.andThen, sliced, Addr.add]
/-- What lies behind the first k. -/
theorem ints_drop {w : World} {A : Option Addr} {c n : Nat} {zs : List Int} (h : IsInts w (.slice A n c) zs) {k : Nat} (hk : k ≤ n) : IsInts w (.slice (if c = k then A else A.map (·.add k)) (n - k) (c - k)) (zs.drop k) := by
  obtain ⟨A', c', e, h1, h2, h3⟩ := h
  injection e with e1 e2 e3
  subst e1 e2 e3
  refine ⟨_, _, by rw [List.length_drop], by rw [List.length_drop]; omega, by omega, ?_⟩
  rw [ints, List.map_drop]
  exact h3.drop k (by simpa using h1)
theorem ints_first {w : World} {A : Option Addr} {c m : Nat} {zs : List Int} (h : IsInts w (.slice A m c) zs) {n : Nat} (hn : n ≤ m) : IsInts w (.slice A n c) (zs.take n) := by
  obtain ⟨A', c', e, h1, h2, h3⟩ := id h
  injection e with e1 e2 e3
  subst e1 e2 e3
  exact ints_take h hn
theorem run_append_at (w0 w : World) (t ty : TypeId) (ht : Try.prog.underlying t = some (.slice 3)) (v x : Value) (os zs : List Int) (hown : Own w0 w v os) (hx : IsInts w x zs) (hl : os.length + zs.length ≤ 1000000000) (hg : Grow w0 w) :
    ∃ v' w', (Builtin.append_ #[t, t] ty #[v, x]).run Try.prog w = .ok v' w' ∧ Own w0 w' v' (os ++ zs) ∧ Grow w0 w' ∧ w.grownBy w' v.ownBlock ∧ (v'.ownBlock = v.ownBlock ∨ v'.ownBlock = some w.heap.size) := by
  obtain ⟨i0, hi0, hz0, hz1, hz2⟩ := info_parts infoInt
  obtain ⟨A, c, rfl, hc, hm, hr⟩ := hx
  cases A with
  | none =>
    have hz : zs = [] := by
      cases zs with
      | nil => rfl
      | cons z zs => obtain ⟨ad, h, _⟩ := hr.int (k := 0) (by simp); cases h
    subst hz
    refine ⟨v, w, ?_, by simpa using hown, hg, World.grownBy.refl w _, .inl rfl⟩
    rcases hown.2 with ⟨rfl, hn⟩ | ⟨g, cap, cur, rfl, _, _, hnc, _⟩
    · simp [Builtin.append_, run_underlying ht, sizeOf, typeInfo, hi0, Builtin.lenOf, Builtin.firstCells]
    · simp [Builtin.append_, run_underlying ht, sizeOf, typeInfo, hi0, Builtin.lenOf, Builtin.firstCells, hnc, storeCells]
  | some ad =>
    have hcells : ∀ (j : Nat) (u : Value), (ints zs)[j]? = some u → w.cell? (ad.add j) = some u := fun j u hu => by
      obtain ⟨ad', h1, _, h2⟩ := hr j u hu
      obtain rfl := Option.some.inj h1
      exact h2
    obtain ⟨v', w', hrun, h1, h2, _, h3⟩ := run_append_own_at (P := Try.prog) w w0.heap.size t ty 3 i0 (.int .i64 0) 1 8 ht hi0 hz0 hz1 hz2 rfl (by decide) v os.length (ints os) hown ad zs.length c (ints zs) (by simp) hcells ints_one (by unfold maxLen at *; omega) (by omega) hg.size
    refine ⟨v', w', hrun, ?_, hg.own h2 hown.block, h2, h3⟩
    unfold Own
    rw [ints, List.map_append, List.length_append]
    exact h1
end Go.Proofs.Ytjiahcfegfimmaa
