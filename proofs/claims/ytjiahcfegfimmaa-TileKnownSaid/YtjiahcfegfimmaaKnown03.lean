/-
  Parts of the proof: Set, Str.
-/
import Derived.Test.YtjiahcfegfimmaaKnown02
import Derived.Laws.BytesArg
/-
  Sets of tiles: what a value of a set reads as; which are valid; the places of kinds. Plain laws and words for memory.
-/
namespace Go.Proofs.Ytjiahcfegfimmaa
open Go.RowKit

/-- A set of tiles. -/
structure TSet where
  pl : Int
  su : List Int
  wi : Int
  dr : Int
  fl : Int
  co : Int
  me : Int
  de : Int
  re : List Int

abbrev setVals (s : TSet) (a b : Value) : List Value := [.int .i64 s.pl, a, .int .i64 s.wi, .int .i64 s.dr, .int .i64 s.fl, .int .i64 s.co, .int .i64 s.me, .int .i64 s.de, b]
/-- The value reads as this set. -/
def IsSet (w : World) (v : Value) (s : TSet) : Prop := ∃ a b, v = .agg #[.int .i64 s.pl, a, .int .i64 s.wi, .int .i64 s.dr, .int .i64 s.fl, .int .i64 s.co, .int .i64 s.me, .int .i64 s.de, b] ∧ IsInts w a s.su ∧ IsInts w b s.re
theorem IsSet.grow {w w' : World} {v : Value} {s : TSet} (h : IsSet w v s) (g : Grow w w') : IsSet w' v s := by
  obtain ⟨a, b, e, h1, h2⟩ := h
  exact ⟨a, b, e, h1.grow g, h2.grow g⟩
theorem IsSet.open_ {w : World} {v : Value} {s : TSet} (h : IsSet w v s) : ∃ A c B d, v = .agg #[.int .i64 s.pl, .slice A s.su.length c, .int .i64 s.wi, .int .i64 s.dr, .int .i64 s.fl, .int .i64 s.co, .int .i64 s.me, .int .i64 s.de, .slice B s.re.length d] ∧ IsInts w (.slice A s.su.length c) s.su ∧ IsInts w (.slice B s.re.length d) s.re := by
  obtain ⟨a, b, e, h1, h2⟩ := h
  obtain ⟨A, c, rfl, _⟩ := id h1
  obtain ⟨B, d, rfl, _⟩ := id h2
  exact ⟨A, c, B, d, e, h1, h2⟩

/-- The first error of kinds that are to be below so many, and strictly ascending. -/
def risErr (many : Int) : Int → List Int → Int
  | _, [] => 0
  | p, k :: l => if k < 0 ∨ many ≤ k then 2 else if k ≤ p then 11 else risErr many k l
def sumI : List Int → Int
  | [] => 0
  | x :: l => x + sumI l
def sutB (n : Int) : Bool := decide (n < 1) || decide (9 < n)
/-- How many plain kinds there are. -/
def plainI (s : TSet) : Int := s.wi + s.dr + sumI s.su
def rowsB (s : TSet) : Bool := (decide (s.wi < 0) || decide (4 < s.wi)) || (decide (s.dr < 0) || decide (3 < s.dr)) || (decide (s.fl < 0) || decide (8 < s.fl)) || (decide (s.co < 1) || decide (4 < s.co)) || (decide (s.me < 1) || decide (4 < s.me)) || (decide (s.de < 0) || decide (20 < s.de))
/-- The first error of a set. -/
def chkErr (s : TSet) : Int :=
  if s.pl < 3 ∨ 4 < s.pl then 2
  else if 3 < s.su.length then 8
  else if s.su.any sutB = true then 2
  else if rowsB s = true then 2
  else if plainI s = 0 then 6
  else if risErr (plainI s) (-1) s.re ≠ 0 then risErr (plainI s) (-1) s.re
  else if plainI s * s.co + s.fl ≤ s.pl * (3 * s.me + 1) + s.de then 6
  else 0

/-- It returns v; what was there is as it was. -/
def Gives (w : World) (v : Value) (e : Ending) (w' : World) : Prop := e = .returned v ∧ Grow w w'
theorem Gives.of_same {w w' : World} {v : Value} {e : Ending} (h : Same w v e w') : Gives w v e w' := ⟨h.1, h.2 ▸ Grow.refl _⟩

theorem sumI_cons (x : Int) (l : List Int) : sumI (x :: l) = x + sumI l := rfl
theorem sumI_append (l m : List Int) : sumI (l ++ m) = sumI l + sumI m := by
  induction l with
  | nil => simp [sumI]
  | cons x l ih => rw [List.cons_append, sumI_cons, sumI_cons, ih]; omega
theorem sumI_take (l : List Int) {k : Nat} (h : k < l.length) : sumI (l.take (k + 1)) = sumI (l.take k) + l[k] := by
  rw [List.take_succ_eq_append_getElem h, sumI_append]; simp [sumI]
theorem sumI_bound {l : List Int} (h : ∀ z ∈ l, 1 ≤ z ∧ z ≤ 9) : (l.length : Int) ≤ sumI l ∧ sumI l ≤ 9 * (l.length : Int) := by
  induction l with
  | nil => simp [sumI]
  | cons x l ih =>
    have h1 := ih fun z hz => h z (by simp [hz])
    have h2 := h x (by simp)
    rw [sumI_cons, List.length_cons]
    omega
theorem risErr_drop {many p : Int} {l : List Int} {k : Nat} (h : k < l.length) : risErr many p (l.drop k) = if l[k] < 0 ∨ many ≤ l[k] then 2 else if l[k] ≤ p then 11 else risErr many l[k] (l.drop (k + 1)) := by
  rw [List.drop_eq_getElem_cons h]; rfl
theorem sutB_false {n : Int} (h : sutB n = false) : 1 ≤ n ∧ n ≤ 9 := by
  unfold sutB at h
  simp at h
  omega
theorem sut_within {l : List Int} (h : l.any sutB = false) : ∀ z ∈ l, 1 ≤ z ∧ z ≤ 9 := fun z hz => sutB_false (by
  have := List.any_eq_false.1 h z hz
  simpa using this)
theorem wrap_in {n : Int} (h0 : -9223372036854775808 ≤ n) (h1 : n ≤ 9223372036854775807) : wrap64 n = n := by
  unfold wrap64; omega
/-- What the loop over the suits has added up: known, if winds and dragons are in their ranges. -/
def KeptSum (s : TSet) (k : Nat) (z : Int) : Prop := 0 ≤ s.wi ∧ s.wi ≤ 4 ∧ 0 ≤ s.dr ∧ s.dr ≤ 3 → z = s.wi + s.dr + sumI (s.su.take k)
theorem KeptSum.start (s : TSet) : KeptSum s 0 (wrap64 (s.wi + s.dr)) := fun h => by
  rw [wrap_in (by omega) (by omega)]; simp [sumI]
theorem KeptSum.step {s : TSet} {k : Nat} {z : Int} (h : KeptSum s k z) (hk : k < s.su.length) (h3 : s.su.length ≤ 3) (hs : ∀ j (hj : j < s.su.length), j < k + 1 → 1 ≤ s.su[j] ∧ s.su[j] ≤ 9) : KeptSum s (k + 1) (wrap64 (z + s.su[k])) := fun hw => by
  have h1 := h hw
  have h2 := sumI_bound (l := s.su.take k) fun z hz => by
    obtain ⟨j, hj, rfl⟩ := List.getElem_of_mem hz
    rw [List.length_take] at hj
    rw [List.getElem_take]
    exact hs j (by omega) (by omega)
  rw [List.length_take] at h2
  have h4 := hs k hk (by omega)
  rw [sumI_take _ hk, wrap_in (by omega) (by omega)]
  omega
/-- The first rows of the table are in their ranges. -/
def RowsTo (s : TSet) (k : Nat) : Prop := (0 < k → 0 ≤ s.wi ∧ s.wi ≤ 4) ∧ (1 < k → 0 ≤ s.dr ∧ s.dr ≤ 3) ∧ (2 < k → 0 ≤ s.fl ∧ s.fl ≤ 8) ∧ (3 < k → 1 ≤ s.co ∧ s.co ≤ 4) ∧ (4 < k → 1 ≤ s.me ∧ s.me ≤ 4) ∧ (5 < k → 0 ≤ s.de ∧ s.de ≤ 20)
theorem rowsB_false {s : TSet} (h : RowsTo s 6) : rowsB s = false := by
  obtain ⟨h1, h2, h3, h4, h5, h6⟩ := h
  unfold rowsB
  simp
  omega
theorem rowsB_rows {s : TSet} (h : rowsB s = false) : RowsTo s 6 := by
  unfold rowsB at h
  simp at h
  unfold RowsTo
  omega
theorem rowsB_true {s : TSet} (h : s.wi < 0 ∨ 4 < s.wi ∨ s.dr < 0 ∨ 3 < s.dr ∨ s.fl < 0 ∨ 8 < s.fl ∨ s.co < 1 ∨ 4 < s.co ∨ s.me < 1 ∨ 4 < s.me ∨ s.de < 0 ∨ 20 < s.de) : rowsB s = true := by
  unfold rowsB
  simp
  omega
/-- A valid set. -/
structure Valid (s : TSet) : Prop where
  pl : 3 ≤ s.pl ∧ s.pl ≤ 4
  su3 : s.su.length ≤ 3
  su : ∀ z ∈ s.su, 1 ≤ z ∧ z ≤ 9
  wi : 0 ≤ s.wi ∧ s.wi ≤ 4
  dr : 0 ≤ s.dr ∧ s.dr ≤ 3
  fl : 0 ≤ s.fl ∧ s.fl ≤ 8
  co : 1 ≤ s.co ∧ s.co ≤ 4
  me : 1 ≤ s.me ∧ s.me ≤ 4
  de : 0 ≤ s.de ∧ s.de ≤ 20
  plain : 1 ≤ plainI s ∧ plainI s ≤ 34
  re : risErr (plainI s) (-1) s.re = 0
  full : s.pl * (3 * s.me + 1) + s.de < plainI s * s.co + s.fl
theorem plain_bound {s : TSet} (h3 : s.su.length ≤ 3) (hs : ∀ z ∈ s.su, 1 ≤ z ∧ z ≤ 9) (hw : 0 ≤ s.wi ∧ s.wi ≤ 4) (hd : 0 ≤ s.dr ∧ s.dr ≤ 3) : 0 ≤ plainI s ∧ plainI s ≤ 34 := by
  have h := sumI_bound hs
  unfold plainI
  omega
theorem valid_of {s : TSet} (h : chkErr s = 0) : Valid s := by
  unfold chkErr at h
  by_cases b1 : s.pl < 3 ∨ 4 < s.pl
  · rw [if_pos b1] at h; omega
  rw [if_neg b1] at h
  by_cases b2 : 3 < s.su.length
  · rw [if_pos b2] at h; omega
  rw [if_neg b2] at h
  by_cases b3 : s.su.any sutB = true
  · rw [if_pos b3] at h; omega
  rw [if_neg b3] at h
  by_cases b4 : rowsB s = true
  · rw [if_pos b4] at h; omega
  rw [if_neg b4] at h
  by_cases b5 : plainI s = 0
  · rw [if_pos b5] at h; omega
  rw [if_neg b5] at h
  by_cases b6 : risErr (plainI s) (-1) s.re ≠ 0
  · rw [if_pos b6] at h; exact absurd h b6
  rw [if_neg b6] at h
  by_cases b7 : plainI s * s.co + s.fl ≤ s.pl * (3 * s.me + 1) + s.de
  · rw [if_pos b7] at h; omega
  obtain ⟨h1, h2, h3, h4, h5, h6⟩ := rowsB_rows (by simpa using b4)
  have hs := sut_within (by simpa using b3)
  have hp := plain_bound (by omega) hs (h1 (by omega)) (h2 (by omega))
  exact ⟨by omega, by omega, hs, h1 (by omega), h2 (by omega), h3 (by omega), h4 (by omega), h5 (by omega), h6 (by omega), by omega, by omega, by omega⟩
end Go.Proofs.Ytjiahcfegfimmaa

/-
  Bytes that are owned, and their strings; lists of faces; whether a number is in a list.
-/
namespace Go.Proofs.Ytjiahcfegfimmaa
open Go.RowKit

abbrev byts (zs : List Int) : List Value := zs.map (Value.int .u8)
theorem infoByte : (Try.prog.info? 5).map (fun i => (i.zero, i.size, i.bytes)) = some (some (.int .u8 0), 1, 1) := by kernel_rfl
theorem str_append (xs ys : List Int) : strOfNums xs ++ strOfNums ys = strOfNums (xs ++ ys) := by
  apply ByteArray.ext
  simp [strOfNums]
theorem str_list (xs : List Int) : (strOfNums xs).toList = xs.map fun n => UInt8.ofNat n.toNat := by
  rw [ByteArray.toList_eq]; exact strOfNums_data xs
/-- 'string(b)' of bytes that the call owns. -/
theorem run_str_own {w0 w : World} {v : Value} {zs : List Int} (h : OwnV w0 w 5 v (byts zs)) : (convert 77 9 v).run Try.prog w = .ok (.string (strOfNums zs)) w := by
  rcases h.2 with ⟨rfl, hn⟩ | ⟨g, cap, cur, rfl, _, hg, _⟩
  · have hz : zs = [] := List.eq_nil_of_length_eq_zero (by simpa using hn)
    subst hz
    exact run_convert_bytes_nil w _ 5 Try.underlying77 Try.underlying5 0 0 _ Try.underlying9
  · refine run_convert_bytes_arg w _ 5 Try.underlying77 Try.underlying5 g 0 _ _ zs (by simp) (fun i hi => ?_) _ Try.underlying9
    simp at hi
    have hr := h.cells (g := g) rfl i (.int .u8 (zs.getD i 0)) (by simp [List.getD, hi])
    rw [show (⟨g, 0, none⟩ : Addr).add i = ⟨g, 0 + i, none⟩ from by unfold Addr.add; split <;> simp_all] at hr
    exact hr

/-- The cells of faces. -/
def faceCells : List (Int × Bool) → List Value
  | [] => []
  | f :: l => .int .i64 f.1 :: .bool f.2 :: faceCells l
theorem faceCells_length (fs : List (Int × Bool)) : (faceCells fs).length = fs.length * 2 := by
  induction fs with
  | nil => rfl
  | cons f l ih => simp [faceCells, ih]; omega
theorem faceCells_append (fs gs : List (Int × Bool)) : faceCells (fs ++ gs) = faceCells fs ++ faceCells gs := by
  induction fs with
  | nil => rfl
  | cons f l ih => simp [faceCells, ih]
theorem faceCells_one (fs : List (Int × Bool)) : ∀ v ∈ faceCells fs, v.oneCell' = true := by
  induction fs with
  | nil => simp [faceCells]
  | cons f l ih =>
    intro v hv
    rcases List.mem_cons.1 hv with rfl | hv
    · rfl
    rcases List.mem_cons.1 hv with rfl | hv
    · rfl
    · exact ih v hv
theorem faceCells_kind {fs : List (Int × Bool)} {k : Nat} (h : k < fs.length) : (faceCells fs)[k * 2]? = some (.int .i64 fs[k].1) := by
  induction fs generalizing k with
  | nil => simp at h
  | cons f l ih =>
    cases k with
    | zero => rfl
    | succ k =>
      simp at h
      have := ih h
      rw [show (k + 1) * 2 = k * 2 + 1 + 1 by omega]
      simpa [faceCells] using this
theorem faceCells_red {fs : List (Int × Bool)} {k : Nat} (h : k < fs.length) : (faceCells fs)[k * 2 + 1]? = some (.bool fs[k].2) := by
  induction fs generalizing k with
  | nil => simp at h
  | cons f l ih =>
    cases k with
    | zero => rfl
    | succ k =>
      simp at h
      have := ih h
      rw [show (k + 1) * 2 + 1 = k * 2 + 1 + 1 + 1 by omega]
      simpa [faceCells] using this
/-- The value is a slice that reads as these faces. -/
def IsFaces (w : World) (v : Value) (fs : List (Int × Bool)) : Prop := ∃ A c, v = .slice A fs.length c ∧ fs.length ≤ c ∧ c ≤ maxLen ∧ Rd w A (faceCells fs)
theorem IsFaces.grow {w w' : World} {v : Value} {fs : List (Int × Bool)} (h : IsFaces w v fs) (g : Grow w w') : IsFaces w' v fs := by
  obtain ⟨A, c, e, h1, h2, h3⟩ := h
  exact ⟨A, c, e, h1, h2, h3.grow g⟩
theorem IsFaces.nil {w : World} : IsFaces w (.slice none 0 0) [] := ⟨none, 0, rfl, Nat.le_refl _, Nat.zero_le _, Rd.nil⟩
theorem Rd.face {w : World} {A : Option Addr} {fs : List (Int × Bool)} (h : Rd w A (faceCells fs)) {k : Nat} (hk : k < fs.length) : ∃ ad, A = some ad ∧ ad.block < w.heap.size ∧ w.cell? (ad.add (k * 2)) = some (.int .i64 fs[k].1) ∧ w.cell? ⟨(ad.add (k * 2)).block, (ad.add (k * 2)).off + 1, none⟩ = some (.bool fs[k].2) := by
  obtain ⟨ad, e, hb, hc⟩ := h _ _ (faceCells_kind hk)
  obtain ⟨ad', e', _, hc'⟩ := h _ _ (faceCells_red hk)
  rw [e] at e'
  injection e' with e'
  subst e'
  exact ⟨ad, e, hb, hc, by rw [show (⟨(ad.add (k * 2)).block, (ad.add (k * 2)).off + 1, none⟩ : Addr) = (ad.add (k * 2)).add 1 from rfl, add_add]; exact hc'⟩
/-- The call began in w0; it owns the slice v, that holds these faces. -/
def OwnF (w0 w : World) (v : Value) (fs : List (Int × Bool)) : Prop := w.ownsRow w0.heap.size 73 2 v fs.length (faceCells fs)
theorem infoFace : (Try.prog.info? 73).map (fun i => (i.zero, i.size, i.bytes)) = some (some (.agg #[.int .i64 0, .bool false]), 2, 16) := by kernel_rfl
theorem OwnF.nil {w0 w : World} : OwnF w0 w (.slice none 0 0) [] := World.ownsRow_nil _ _ _ _
theorem OwnF.kept {w0 w w' : World} {v : Value} {fs : List (Int × Bool)} (h : OwnF w0 w v fs) (g : Grow w w') : OwnF w0 w' v fs := by
  refine ⟨h.1, ?_⟩
  rcases h.2 with hn | ⟨g', cap, cur, e, hb, hh, r⟩
  · exact .inl hn
  · exact .inr ⟨g', cap, cur, e, hb, g.blk_some hh, r⟩
theorem OwnF.block {w0 w : World} {v : Value} {fs : List (Int × Bool)} (h : OwnF w0 w v fs) : ∀ k, v.ownBlock = some k → w0.heap.size ≤ k := fun k hk => (World.ownsRow.lt h k hk).1
theorem OwnF.is {w0 w : World} {v : Value} {fs : List (Int × Bool)} (h : OwnF w0 w v fs) : IsFaces w v fs := by
  rcases h.2 with ⟨rfl, hn⟩ | ⟨g, cap, cur, rfl, _, _, hn, hm, _⟩
  · have hz : fs = [] := List.eq_nil_of_length_eq_zero hn
    subst hz
    exact IsFaces.nil
  · exact ⟨_, _, rfl, hn, hm, Rd.of_own h⟩

/-- 'append(out, Face{..})'. -/
theorem run_append_face (w0 w : World) (t ty : TypeId) (ht : Try.prog.underlying t = some (.slice 73)) (f : Int × Bool) (v : Value) (fs : List (Int × Bool)) (hown : OwnF w0 w v fs) (hl : fs.length ≤ 1000000000) (hg : Grow w0 w) :
    ∃ v' w', (Builtin.append_ #[t, t] ty #[v, .slice (some ⟨w.heap.size, 0, none⟩) 1 1]).run Try.prog (w.alloc (.cells #[.int .i64 f.1, .bool f.2] 73)) = .ok v' w' ∧ OwnF w0 w' v' (fs ++ [f]) ∧ Grow w0 w' ∧ (w.alloc (.cells #[.int .i64 f.1, .bool f.2] 73)).grownBy w' v.ownBlock := by
  obtain ⟨i0, hi0, hz0, hz1, hz2⟩ := info_parts infoFace
  obtain ⟨v', w', hrun, h1, h2, _⟩ := run_append_own (P := Try.prog) (w.alloc (.cells #[.int .i64 f.1, .bool f.2] 73)) w0.heap.size t ty 73 i0 _ 2 16 ht hi0 hz0 hz1 hz2 rfl (by decide) v fs.length (faceCells fs) (World.ownsRow.alloc hown _) ⟨w.heap.size, 0, none⟩ 1 1 [.int .i64 f.1, .bool f.2] rfl
    (World.news_of_block (cs := #[.int .i64 f.1, .bool f.2]) (t := 73) (fr := (0, 0)) (heap_alloc_new w _)) (by simp [Value.oneCell']) (by unfold maxLen; omega) (by omega) (by have := hg.size; simp; omega)
  refine ⟨v', w', hrun, ?_, (hg.alloc _).own h2 hown.block, h2⟩
  have e1 : (fs ++ [f]).length = fs.length + 1 := by simp
  unfold OwnF
  rw [e1, faceCells_append]
  exact h1
/-- 'append(out, l...)'. -/
theorem run_append_faces (w0 w : World) (t ty : TypeId) (ht : Try.prog.underlying t = some (.slice 73)) (v x : Value) (fs gs : List (Int × Bool)) (hown : OwnF w0 w v fs) (hx : IsFaces w x gs) (hl : fs.length + gs.length ≤ 1000000000) (hg : Grow w0 w) :
    ∃ v' w', (Builtin.append_ #[t, t] ty #[v, x]).run Try.prog w = .ok v' w' ∧ OwnF w0 w' v' (fs ++ gs) ∧ Grow w0 w' ∧ w.grownBy w' v.ownBlock := by
  obtain ⟨i0, hi0, hz0, hz1, hz2⟩ := info_parts infoFace
  obtain ⟨A, c, rfl, hc, hm, hr⟩ := hx
  cases gs with
  | nil =>
    cases A with
    | none =>
      refine ⟨v, w, ?_, by simpa using hown, hg, World.grownBy.refl w _⟩
      rcases hown.2 with ⟨rfl, h0⟩ | ⟨g, cap, cur, rfl, _, _, hnc, _⟩
      · have : fs = [] := List.eq_nil_of_length_eq_zero h0
        subst this
        simp [Builtin.append_, run_underlying ht, sizeOf, typeInfo, hi0, Builtin.lenOf, Builtin.firstCells]
      · simp [Builtin.append_, run_underlying ht, sizeOf, typeInfo, hi0, Builtin.lenOf, Builtin.firstCells, hnc, storeCells]
    | some ad =>
      obtain ⟨v', w', hrun, h1, h2, _⟩ := run_append_own (P := Try.prog) w w0.heap.size t ty 73 i0 _ 2 16 ht hi0 hz0 hz1 hz2 rfl (by decide) v fs.length (faceCells fs) hown ad 0 c [] rfl
        (fun i u hu => by simp at hu) (by simp) (by unfold maxLen; simp at hl; omega) (by simp at hl; omega) hg.size
      refine ⟨v', w', hrun, ?_, hg.own h2 hown.block, h2⟩
      unfold OwnF
      simpa using h1
  | cons g0 gs =>
    obtain ⟨ad, rfl, -, -⟩ := hr.face (k := 0) (by simp)
    obtain ⟨v', w', hrun, h1, h2, _⟩ := run_append_own (P := Try.prog) w w0.heap.size t ty 73 i0 _ 2 16 ht hi0 hz0 hz1 hz2 rfl (by decide) v fs.length (faceCells fs) hown ad (g0 :: gs).length c (faceCells (g0 :: gs)) (faceCells_length _)
      (fun i u hu => by
        obtain ⟨ad', e, _, hc⟩ := hr i u hu
        have e2 := Option.some.inj e
        rw [e2]
        exact hc) (faceCells_one _) (by unfold maxLen; omega) (by omega) hg.size
    refine ⟨v', w', hrun, ?_, hg.own h2 hown.block, h2⟩
    unfold OwnF
    rw [List.length_append, faceCells_append]
    exact h1

/-- Where a number is in a list; -1: nowhere. -/
def IdxRes (zs : List Int) (k : Int) (w : World) (e : Ending) (w' : World) : Prop := ∃ i : Int, e = .returned (.int .i64 i) ∧ w = w' ∧ decide (0 ≤ i) = decide (k ∈ zs)
theorem Index_any (v : Value) (zs : List Int) (k : Int) (w : World) (h : IsInts w v zs) : Calls Try.prog 102 #[v, .int .i64 k] w (IdxRes zs k w) := by
  obtain ⟨A, c, rfl, hc, hm, hr⟩ := h
  unfold maxLen at hm
  go_enter Try.func102, Try.ntmps102
  go_wp2
  go_loop [8] (fun i => ∃ j : Nat, j ≤ zs.length ∧ i = .int .i64 (j : Int) ∧ ∀ m (h : m < zs.length), m < j → zs[m] ≠ k) (fun i => zs.length - (intOf i).toNat)
  case atStart => exact ⟨0, Nat.zero_le _, rfl, by simp⟩
  case round =>
    obtain ⟨j, hj, rfl, hno⟩ := hrel
    have HN := hid hno
    clear hno
    by_cases hlt : j < zs.length
    · obtain ⟨ad, rfl, _, hx⟩ := hr.int hlt
      have i0 : (0 : Int) ≤ (j : Int) := by omega
      have i1 : (j : Int) < (zs.length : Int) := by omega
      by_cases he : zs[j] = k
      · have he' : (k == zs[j]) = true := by simp [he]
        have FIN := hid (show decide ((0 : Int) ≤ (j : Int)) = decide (k ∈ zs) by rw [decide_eq_true i0, decide_eq_true]; exact he ▸ List.getElem_mem hlt)
        clear he
        go_wp2
        go_ret
        exact ⟨_, rfl, rfl, FIN.out⟩
      · have he' : (k == zs[j]) = false := by simp; exact fun e => he e.symm
        have HE := hid he
        clear he
        go_wp2
        refine ⟨⟨j + 1, by omega, by go_num, fun m h hm => ?_⟩, by simp only [intOf]; omega⟩
        by_cases e : m = j
        · subst e; exact HE.out
        · exact HN.out m h (by omega)
    · go_wp2
      go_ret
      refine ⟨_, rfl, rfl, ?_⟩
      rw [decide_eq_false (by omega), decide_eq_false]
      intro hm
      obtain ⟨m, hm, e⟩ := List.getElem_of_mem hm
      exact HN.out m hm (by omega) e
theorem Contains_any (v : Value) (zs : List Int) (k : Int) (w : World) (h : IsInts w v zs) : Calls Try.prog 73 #[v, .int .i64 k] w (Same w (.bool (decide (k ∈ zs)))) := by
  have HI := hid (Index_any v zs k w h)
  clear h
  go_enter Try.func73, Try.ntmps73
  go_wp2_with (go_at_call 102; refine HI.out.mono ?_; rintro e w1 ⟨i, rfl, rfl, hi⟩; have HX := hid hi; clear hi)
  go_ret
  exact ⟨by rw [← HX.out]; rfl, rfl⟩
end Go.Proofs.Ytjiahcfegfimmaa
