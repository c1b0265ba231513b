/-
  Bytes that are owned, and their strings; lists of faces; whether a number is in a list.
-/
import Derived.Test.YtjiahcfegfimmaaNotes03
import Derived.Laws.BytesArg
namespace Go.Proofs.Ytjiahcfegfimmaa
open Go.RowKit

abbrev byts (zs : List Int) : List Value := zs.map (Value.int .u8)
theorem infoByte : (Try.prog.info? 5).map (fun i => (i.zero, i.size, i.bytes)) = some (some (.int .u8 0), 1, 1) := by kernel_rfl
theorem str_append (xs ys : List Int) : strOfNums xs ++ strOfNums ys = strOfNums (xs ++ ys) := by
  apply ByteArray.ext
  simp [strOfNums]
theorem str_list (xs : List Int) : (strOfNums xs).toList = xs.map fun n => UInt8.ofNat n.toNat := by
  rw [ByteArray.toList_eq]; exact strOfNums_data xs
/-- 'string(b)' of bytes that the call owns. -/
theorem run_str_own {w0 w : World} {v : Value} {zs : List Int} (h : OwnV w0 w 5 v (byts zs)) : (convert 77 9 v).run Try.prog w = .ok (.string (strOfNums zs)) w := by
  rcases h.2 with ⟨rfl, hn⟩ | ⟨g, cap, cur, rfl, _, hg, _⟩
  · have hz : zs = [] := List.eq_nil_of_length_eq_zero (by simpa using hn)
    subst hz
    exact run_convert_bytes_nil w _ 5 Try.underlying77 Try.underlying5 0 0 _ Try.underlying9
  · refine run_convert_bytes_arg w _ 5 Try.underlying77 Try.underlying5 g 0 _ _ zs (by simp) (fun i hi => ?_) _ Try.underlying9
    simp at hi
    have hr := h.cells (g := g) rfl i (.int .u8 (zs.getD i 0)) (by simp [List.getD, hi])
    rw [show (⟨g, 0, none⟩ : Addr).add i = ⟨g, 0 + i, none⟩ from by unfold Addr.add; split <;> simp_all] at hr
    exact hr

/-- The cells of faces. -/
def faceCells : List (Int × Bool) → List Value
  | [] => []
  | f :: l => .int .i64 f.1 :: .bool f.2 :: faceCells l
theorem faceCells_length (fs : List (Int × Bool)) : (faceCells fs).length = fs.length * 2 := by
  induction fs with
  | nil => rfl
  | cons f l ih => simp [faceCells, ih]; omega
theorem faceCells_append (fs gs : List (Int × Bool)) : faceCells (fs ++ gs) = faceCells fs ++ faceCells gs := by
  induction fs with
  | nil => rfl
  | cons f l ih => simp [faceCells, ih]
theorem faceCells_one (fs : List (Int × Bool)) : ∀ v ∈ faceCells fs, v.oneCell' = true := by
  induction fs with
  | nil => simp [faceCells]
  | cons f l ih =>
    intro v hv
    rcases List.mem_cons.1 hv with rfl | hv
    · rfl
    rcases List.mem_cons.1 hv with rfl | hv
    · rfl
    · exact ih v hv
theorem faceCells_kind {fs : List (Int × Bool)} {k : Nat} (h : k < fs.length) : (faceCells fs)[k * 2]? = some (.int .i64 fs[k].1) := by
  induction fs generalizing k with
  | nil => simp at h
  | cons f l ih =>
    cases k with
    | zero => rfl
    | succ k =>
      simp at h
      have := ih h
      rw [show (k + 1) * 2 = k * 2 + 1 + 1 by omega]
      simpa [faceCells] using this
theorem faceCells_red {fs : List (Int × Bool)} {k : Nat} (h : k < fs.length) : (faceCells fs)[k * 2 + 1]? = some (.bool fs[k].2) := by
  induction fs generalizing k with
  | nil => simp at h
  | cons f l ih =>
    cases k with
    | zero => rfl
    | succ k =>
      simp at h
      have := ih h
      rw [show (k + 1) * 2 + 1 = k * 2 + 1 + 1 + 1 by omega]
      simpa [faceCells] using this
/-- The value is a slice that reads as these faces. -/
def IsFaces (w : World) (v : Value) (fs : List (Int × Bool)) : Prop := ∃ A c, v = .slice A fs.length c ∧ fs.length ≤ c ∧ c ≤ maxLen ∧ Rd w A (faceCells fs)
theorem IsFaces.grow {w w' : World} {v : Value} {fs : List (Int × Bool)} (h : IsFaces w v fs) (g : Grow w w') : IsFaces w' v fs := by
  obtain ⟨A, c, e, h1, h2, h3⟩ := h
  exact ⟨A, c, e, h1, h2, h3.grow g⟩
theorem IsFaces.nil {w : World} : IsFaces w (.slice none 0 0) [] := ⟨none, 0, rfl, Nat.le_refl _, Nat.zero_le _, Rd.nil⟩
theorem Rd.face {w : World} {A : Option Addr} {fs : List (Int × Bool)} (h : Rd w A (faceCells fs)) {k : Nat} (hk : k < fs.length) : ∃ ad, A = some ad ∧ ad.block < w.heap.size ∧ w.cell? (ad.add (k * 2)) = some (.int .i64 fs[k].1) ∧ w.cell? ⟨(ad.add (k * 2)).block, (ad.add (k * 2)).off + 1, none⟩ = some (.bool fs[k].2) := by
  obtain ⟨ad, e, hb, hc⟩ := h _ _ (faceCells_kind hk)
  obtain ⟨ad', e', _, hc'⟩ := h _ _ (faceCells_red hk)
  rw [e] at e'
  injection e' with e'
  subst e'
  exact ⟨ad, e, hb, hc, by rw [show (⟨(ad.add (k * 2)).block, (ad.add (k * 2)).off + 1, none⟩ : Addr) = (ad.add (k * 2)).add 1 from rfl, add_add]; exact hc'⟩
/-- The call began in w0; it owns the slice v, that holds these faces. -/
def OwnF (w0 w : World) (v : Value) (fs : List (Int × Bool)) : Prop := w.ownsRow w0.heap.size 73 2 v fs.length (faceCells fs)
theorem infoFace : (Try.prog.info? 73).map (fun i => (i.zero, i.size, i.bytes)) = some (some (.agg #[.int .i64 0, .bool false]), 2, 16) := by kernel_rfl
theorem OwnF.nil {w0 w : World} : OwnF w0 w (.slice none 0 0) [] := World.ownsRow_nil _ _ _ _
theorem OwnF.kept {w0 w w' : World} {v : Value} {fs : List (Int × Bool)} (h : OwnF w0 w v fs) (g : Grow w w') : OwnF w0 w' v fs := by
  refine ⟨h.1, ?_⟩
  rcases h.2 with hn | ⟨g', cap, cur, e, hb, hh, r⟩
  · exact .inl hn
  · exact .inr ⟨g', cap, cur, e, hb, g.blk_some hh, r⟩
theorem OwnF.block {w0 w : World} {v : Value} {fs : List (Int × Bool)} (h : OwnF w0 w v fs) : ∀ k, v.ownBlock = some k → w0.heap.size ≤ k := fun k hk => (World.ownsRow.lt h k hk).1
theorem OwnF.is {w0 w : World} {v : Value} {fs : List (Int × Bool)} (h : OwnF w0 w v fs) : IsFaces w v fs := by
  rcases h.2 with ⟨rfl, hn⟩ | ⟨g, cap, cur, rfl, _, _, hn, hm, _⟩
  · have hz : fs = [] := List.eq_nil_of_length_eq_zero hn
    subst hz
    exact IsFaces.nil
  · exact ⟨_, _, rfl, hn, hm, Rd.of_own h⟩

/-- 'append(out, Face{..})'. -/
theorem run_append_face (w0 w : World) (t ty : TypeId) (ht : Try.prog.underlying t = some (.slice 73)) (f : Int × Bool) (v : Value) (fs : List (Int × Bool)) (hown : OwnF w0 w v fs) (hl : fs.length ≤ 1000000000) (hg : Grow w0 w) :
    ∃ v' w', (Builtin.append_ #[t, t] ty #[v, .slice (some ⟨w.heap.size, 0, none⟩) 1 1]).run Try.prog (w.alloc (.cells #[.int .i64 f.1, .bool f.2] 73)) = .ok v' w' ∧ OwnF w0 w' v' (fs ++ [f]) ∧ Grow w0 w' ∧ (w.alloc (.cells #[.int .i64 f.1, .bool f.2] 73)).grownBy w' v.ownBlock := by
  obtain ⟨i0, hi0, hz0, hz1, hz2⟩ := info_parts infoFace
  obtain ⟨v', w', hrun, h1, h2, _⟩ := run_append_own (P := Try.prog) (w.alloc (.cells #[.int .i64 f.1, .bool f.2] 73)) w0.heap.size t ty 73 i0 _ 2 16 ht hi0 hz0 hz1 hz2 rfl (by decide) v fs.length (faceCells fs) (World.ownsRow.alloc hown _) ⟨w.heap.size, 0, none⟩ 1 1 [.int .i64 f.1, .bool f.2] rfl
    (World.news_of_block (cs := #[.int .i64 f.1, .bool f.2]) (t := 73) (fr := (0, 0)) (heap_alloc_new w _)) (by simp [Value.oneCell']) (by unfold maxLen; omega) (by omega) (by have := hg.size; simp; omega)
  refine ⟨v', w', hrun, ?_, (hg.alloc _).own h2 hown.block, h2⟩
  have e1 : (fs ++ [f]).length = fs.length + 1 := by simp
  unfold OwnF
  rw [e1, faceCells_append]
  exact h1
/-- 'append(out, l...)'. -/
theorem run_append_faces (w0 w : World) (t ty : TypeId) (ht : Try.prog.underlying t = some (.slice 73)) (v x : Value) (fs gs : List (Int × Bool)) (hown : OwnF w0 w v fs) (hx : IsFaces w x gs) (hl : fs.length + gs.length ≤ 1000000000) (hg : Grow w0 w) :
    ∃ v' w', (Builtin.append_ #[t, t] ty #[v, x]).run Try.prog w = .ok v' w' ∧ OwnF w0 w' v' (fs ++ gs) ∧ Grow w0 w' ∧ w.grownBy w' v.ownBlock := by
  obtain ⟨i0, hi0, hz0, hz1, hz2⟩ := info_parts infoFace
  obtain ⟨A, c, rfl, hc, hm, hr⟩ := hx
  cases gs with
  | nil =>
    cases A with
    | none =>
      refine ⟨v, w, ?_, by simpa using hown, hg, World.grownBy.refl w _⟩
      rcases hown.2 with ⟨rfl, h0⟩ | ⟨g, cap, cur, rfl, _, _, hnc, _⟩
      · have : fs = [] := List.eq_nil_of_length_eq_zero h0
        subst this
        simp [Builtin.append_, run_underlying ht, sizeOf, typeInfo, hi0, Builtin.lenOf, Builtin.firstCells]
      · simp [Builtin.append_, run_underlying ht, sizeOf, typeInfo, hi0, Builtin.lenOf, Builtin.firstCells, hnc, storeCells]
    | some ad =>
      obtain ⟨v', w', hrun, h1, h2, _⟩ := run_append_own (P := Try.prog) w w0.heap.size t ty 73 i0 _ 2 16 ht hi0 hz0 hz1 hz2 rfl (by decide) v fs.length (faceCells fs) hown ad 0 c [] rfl
        (fun i u hu => by simp at hu) (by simp) (by unfold maxLen; simp at hl; omega) (by simp at hl; omega) hg.size
      refine ⟨v', w', hrun, ?_, hg.own h2 hown.block, h2⟩
      unfold OwnF
      simpa using h1
  | cons g0 gs =>
    obtain ⟨ad, rfl, -, -⟩ := hr.face (k := 0) (by simp)
    obtain ⟨v', w', hrun, h1, h2, _⟩ := run_append_own (P := Try.prog) w w0.heap.size t ty 73 i0 _ 2 16 ht hi0 hz0 hz1 hz2 rfl (by decide) v fs.length (faceCells fs) hown ad (g0 :: gs).length c (faceCells (g0 :: gs)) (faceCells_length _)
      (fun i u hu => by
        obtain ⟨ad', e, _, hc⟩ := hr i u hu
        have e2 := Option.some.inj e
        rw [e2]
        exact hc) (faceCells_one _) (by unfold maxLen; omega) (by omega) hg.size
    refine ⟨v', w', hrun, ?_, hg.own h2 hown.block, h2⟩
    unfold OwnF
    rw [List.length_append, faceCells_append]
    exact h1

/-- Where a number is in a list; -1: nowhere. -/
def IdxRes (zs : List Int) (k : Int) (w : World) (e : Ending) (w' : World) : Prop := ∃ i : Int, e = .returned (.int .i64 i) ∧ w = w' ∧ decide (0 ≤ i) = decide (k ∈ zs)
theorem Index_any (v : Value) (zs : List Int) (k : Int) (w : World) (h : IsInts w v zs) : Calls Try.prog 102 #[v, .int .i64 k] w (IdxRes zs k w) := by
  obtain ⟨A, c, rfl, hc, hm, hr⟩ := h
  unfold maxLen at hm
  go_enter Try.func102, Try.ntmps102
  go_wp2
  go_loop [8] (fun i => ∃ j : Nat, j ≤ zs.length ∧ i = .int .i64 (j : Int) ∧ ∀ m (h : m < zs.length), m < j → zs[m] ≠ k) (fun i => zs.length - (intOf i).toNat)
  case atStart => exact ⟨0, Nat.zero_le _, rfl, by simp⟩
  case round =>
    obtain ⟨j, hj, rfl, hno⟩ := hrel
    have HN := hid hno
    clear hno
    by_cases hlt : j < zs.length
    · obtain ⟨ad, rfl, _, hx⟩ := hr.int hlt
      have i0 : (0 : Int) ≤ (j : Int) := by omega
      have i1 : (j : Int) < (zs.length : Int) := by omega
      by_cases he : zs[j] = k
      · have he' : (k == zs[j]) = true := by simp [he]
        have FIN := hid (show decide ((0 : Int) ≤ (j : Int)) = decide (k ∈ zs) by rw [decide_eq_true i0, decide_eq_true]; exact he ▸ List.getElem_mem hlt)
        clear he
        go_wp2
        go_ret
        exact ⟨_, rfl, rfl, FIN.out⟩
      · have he' : (k == zs[j]) = false := by simp; exact fun e => he e.symm
        have HE := hid he
        clear he
        go_wp2
        refine ⟨⟨j + 1, by omega, by go_num, fun m h hm => ?_⟩, by simp only [intOf]; omega⟩
        by_cases e : m = j
        · subst e; exact HE.out
        · exact HN.out m h (by omega)
    · go_wp2
      go_ret
      refine ⟨_, rfl, rfl, ?_⟩
      rw [decide_eq_false (by omega), decide_eq_false]
      intro hm
      obtain ⟨m, hm, e⟩ := List.getElem_of_mem hm
      exact HN.out m hm (by omega) e
theorem Contains_any (v : Value) (zs : List Int) (k : Int) (w : World) (h : IsInts w v zs) : Calls Try.prog 73 #[v, .int .i64 k] w (Same w (.bool (decide (k ∈ zs)))) := by
  have HI := hid (Index_any v zs k w h)
  clear h
  go_enter Try.func73, Try.ntmps73
  go_wp2_with (go_at_call 102; refine HI.out.mono ?_; rintro e w1 ⟨i, rfl, rfl, hi⟩; have HX := hid hi; clear hi)
  go_ret
  exact ⟨by rw [← HX.out]; rfl, rfl⟩
end Go.Proofs.Ytjiahcfegfimmaa
