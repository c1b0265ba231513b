/-
  Parts of the proof: Set, Suit.
-/
import Derived.Test.YtjiahcfegfimmaaNotes02
import Derived.Lib.OthersKept
import Derived.Outline
/-
  Sets of tiles: what a value of a set reads as; which are valid; the places of kinds. Plain laws and words for memory.
-/
namespace Go.Proofs.Ytjiahcfegfimmaa
open Go.RowKit

/-- A set of tiles. -/
structure TSet where
  pl : Int
  su : List Int
  wi : Int
  dr : Int
  fl : Int
  co : Int
  me : Int
  de : Int
  re : List Int

abbrev setVals (s : TSet) (a b : Value) : List Value := [.int .i64 s.pl, a, .int .i64 s.wi, .int .i64 s.dr, .int .i64 s.fl, .int .i64 s.co, .int .i64 s.me, .int .i64 s.de, b]
/-- The value reads as this set. -/
def IsSet (w : World) (v : Value) (s : TSet) : Prop := ∃ a b, v = .agg #[.int .i64 s.pl, a, .int .i64 s.wi, .int .i64 s.dr, .int .i64 s.fl, .int .i64 s.co, .int .i64 s.me, .int .i64 s.de, b] ∧ IsInts w a s.su ∧ IsInts w b s.re
theorem IsSet.grow {w w' : World} {v : Value} {s : TSet} (h : IsSet w v s) (g : Grow w w') : IsSet w' v s := by
  obtain ⟨a, b, e, h1, h2⟩ := h
  exact ⟨a, b, e, h1.grow g, h2.grow g⟩
theorem IsSet.open_ {w : World} {v : Value} {s : TSet} (h : IsSet w v s) : ∃ A c B d, v = .agg #[.int .i64 s.pl, .slice A s.su.length c, .int .i64 s.wi, .int .i64 s.dr, .int .i64 s.fl, .int .i64 s.co, .int .i64 s.me, .int .i64 s.de, .slice B s.re.length d] ∧ IsInts w (.slice A s.su.length c) s.su ∧ IsInts w (.slice B s.re.length d) s.re := by
  obtain ⟨a, b, e, h1, h2⟩ := h
  obtain ⟨A, c, rfl, _⟩ := id h1
  obtain ⟨B, d, rfl, _⟩ := id h2
  exact ⟨A, c, B, d, e, h1, h2⟩

/-- The first error of kinds that are to be below so many, and strictly ascending. -/
def risErr (many : Int) : Int → List Int → Int
  | _, [] => 0
  | p, k :: l => if k < 0 ∨ many ≤ k then 2 else if k ≤ p then 11 else risErr many k l
def sumI : List Int → Int
  | [] => 0
  | x :: l => x + sumI l
def sutB (n : Int) : Bool := decide (n < 1) || decide (9 < n)
/-- How many plain kinds there are. -/
def plainI (s : TSet) : Int := s.wi + s.dr + sumI s.su
def rowsB (s : TSet) : Bool := (decide (s.wi < 0) || decide (4 < s.wi)) || (decide (s.dr < 0) || decide (3 < s.dr)) || (decide (s.fl < 0) || decide (8 < s.fl)) || (decide (s.co < 1) || decide (4 < s.co)) || (decide (s.me < 1) || decide (4 < s.me)) || (decide (s.de < 0) || decide (20 < s.de))
/-- The first error of a set. -/
def chkErr (s : TSet) : Int :=
  if s.pl < 3 ∨ 4 < s.pl then 2
  else if 3 < s.su.length then 8
  else if s.su.any sutB = true then 2
  else if rowsB s = true then 2
  else if plainI s = 0 then 6
  else if risErr (plainI s) (-1) s.re ≠ 0 then risErr (plainI s) (-1) s.re
  else if plainI s * s.co + s.fl ≤ s.pl * (3 * s.me + 1) + s.de then 6
  else 0

/-- It returns v; what was there is as it was. -/
def Gives (w : World) (v : Value) (e : Ending) (w' : World) : Prop := e = .returned v ∧ Grow w w'
theorem Gives.of_same {w w' : World} {v : Value} {e : Ending} (h : Same w v e w') : Gives w v e w' := ⟨h.1, h.2 ▸ Grow.refl _⟩

theorem sumI_cons (x : Int) (l : List Int) : sumI (x :: l) = x + sumI l := rfl
theorem sumI_append (l m : List Int) : sumI (l ++ m) = sumI l + sumI m := by
  induction l with
  | nil => simp [sumI]
  | cons x l ih => rw [List.cons_append, sumI_cons, sumI_cons, ih]; omega
theorem sumI_take (l : List Int) {k : Nat} (h : k < l.length) : sumI (l.take (k + 1)) = sumI (l.take k) + l[k] := by
  rw [List.take_succ_eq_append_getElem h, sumI_append]; simp [sumI]
theorem sumI_bound {l : List Int} (h : ∀ z ∈ l, 1 ≤ z ∧ z ≤ 9) : (l.length : Int) ≤ sumI l ∧ sumI l ≤ 9 * (l.length : Int) := by
  induction l with
  | nil => simp [sumI]
  | cons x l ih =>
    have h1 := ih fun z hz => h z (by simp [hz])
    have h2 := h x (by simp)
    rw [sumI_cons, List.length_cons]
    omega
theorem risErr_drop {many p : Int} {l : List Int} {k : Nat} (h : k < l.length) : risErr many p (l.drop k) = if l[k] < 0 ∨ many ≤ l[k] then 2 else if l[k] ≤ p then 11 else risErr many l[k] (l.drop (k + 1)) := by
  rw [List.drop_eq_getElem_cons h]; rfl
theorem sutB_false {n : Int} (h : sutB n = false) : 1 ≤ n ∧ n ≤ 9 := by
  unfold sutB at h
  simp at h
  omega
theorem sut_within {l : List Int} (h : l.any sutB = false) : ∀ z ∈ l, 1 ≤ z ∧ z ≤ 9 := fun z hz => sutB_false (by
  have := List.any_eq_false.1 h z hz
  simpa using this)
theorem wrap_in {n : Int} (h0 : -9223372036854775808 ≤ n) (h1 : n ≤ 9223372036854775807) : wrap64 n = n := by
  unfold wrap64; omega
/-- What the loop over the suits has added up: known, if winds and dragons are in their ranges. -/
def KeptSum (s : TSet) (k : Nat) (z : Int) : Prop := 0 ≤ s.wi ∧ s.wi ≤ 4 ∧ 0 ≤ s.dr ∧ s.dr ≤ 3 → z = s.wi + s.dr + sumI (s.su.take k)
theorem KeptSum.start (s : TSet) : KeptSum s 0 (wrap64 (s.wi + s.dr)) := fun h => by
  rw [wrap_in (by omega) (by omega)]; simp [sumI]
theorem KeptSum.step {s : TSet} {k : Nat} {z : Int} (h : KeptSum s k z) (hk : k < s.su.length) (h3 : s.su.length ≤ 3) (hs : ∀ j (hj : j < s.su.length), j < k + 1 → 1 ≤ s.su[j] ∧ s.su[j] ≤ 9) : KeptSum s (k + 1) (wrap64 (z + s.su[k])) := fun hw => by
  have h1 := h hw
  have h2 := sumI_bound (l := s.su.take k) fun z hz => by
    obtain ⟨j, hj, rfl⟩ := List.getElem_of_mem hz
    rw [List.length_take] at hj
    rw [List.getElem_take]
    exact hs j (by omega) (by omega)
  rw [List.length_take] at h2
  have h4 := hs k hk (by omega)
  rw [sumI_take _ hk, wrap_in (by omega) (by omega)]
  omega
/-- The first rows of the table are in their ranges. -/
def RowsTo (s : TSet) (k : Nat) : Prop := (0 < k → 0 ≤ s.wi ∧ s.wi ≤ 4) ∧ (1 < k → 0 ≤ s.dr ∧ s.dr ≤ 3) ∧ (2 < k → 0 ≤ s.fl ∧ s.fl ≤ 8) ∧ (3 < k → 1 ≤ s.co ∧ s.co ≤ 4) ∧ (4 < k → 1 ≤ s.me ∧ s.me ≤ 4) ∧ (5 < k → 0 ≤ s.de ∧ s.de ≤ 20)
theorem rowsB_false {s : TSet} (h : RowsTo s 6) : rowsB s = false := by
  obtain ⟨h1, h2, h3, h4, h5, h6⟩ := h
  unfold rowsB
  simp
  omega
theorem rowsB_rows {s : TSet} (h : rowsB s = false) : RowsTo s 6 := by
  unfold rowsB at h
  simp at h
  unfold RowsTo
  omega
theorem rowsB_true {s : TSet} (h : s.wi < 0 ∨ 4 < s.wi ∨ s.dr < 0 ∨ 3 < s.dr ∨ s.fl < 0 ∨ 8 < s.fl ∨ s.co < 1 ∨ 4 < s.co ∨ s.me < 1 ∨ 4 < s.me ∨ s.de < 0 ∨ 20 < s.de) : rowsB s = true := by
  unfold rowsB
  simp
  omega
/-- A valid set. -/
structure Valid (s : TSet) : Prop where
  pl : 3 ≤ s.pl ∧ s.pl ≤ 4
  su3 : s.su.length ≤ 3
  su : ∀ z ∈ s.su, 1 ≤ z ∧ z ≤ 9
  wi : 0 ≤ s.wi ∧ s.wi ≤ 4
  dr : 0 ≤ s.dr ∧ s.dr ≤ 3
  fl : 0 ≤ s.fl ∧ s.fl ≤ 8
  co : 1 ≤ s.co ∧ s.co ≤ 4
  me : 1 ≤ s.me ∧ s.me ≤ 4
  de : 0 ≤ s.de ∧ s.de ≤ 20
  plain : 1 ≤ plainI s ∧ plainI s ≤ 34
  re : risErr (plainI s) (-1) s.re = 0
  full : s.pl * (3 * s.me + 1) + s.de < plainI s * s.co + s.fl
theorem plain_bound {s : TSet} (h3 : s.su.length ≤ 3) (hs : ∀ z ∈ s.su, 1 ≤ z ∧ z ≤ 9) (hw : 0 ≤ s.wi ∧ s.wi ≤ 4) (hd : 0 ≤ s.dr ∧ s.dr ≤ 3) : 0 ≤ plainI s ∧ plainI s ≤ 34 := by
  have h := sumI_bound hs
  unfold plainI
  omega
theorem valid_of {s : TSet} (h : chkErr s = 0) : Valid s := by
  unfold chkErr at h
  by_cases b1 : s.pl < 3 ∨ 4 < s.pl
  · rw [if_pos b1] at h; omega
  rw [if_neg b1] at h
  by_cases b2 : 3 < s.su.length
  · rw [if_pos b2] at h; omega
  rw [if_neg b2] at h
  by_cases b3 : s.su.any sutB = true
  · rw [if_pos b3] at h; omega
  rw [if_neg b3] at h
  by_cases b4 : rowsB s = true
  · rw [if_pos b4] at h; omega
  rw [if_neg b4] at h
  by_cases b5 : plainI s = 0
  · rw [if_pos b5] at h; omega
  rw [if_neg b5] at h
  by_cases b6 : risErr (plainI s) (-1) s.re ≠ 0
  · rw [if_pos b6] at h; exact absurd h b6
  rw [if_neg b6] at h
  by_cases b7 : plainI s * s.co + s.fl ≤ s.pl * (3 * s.me + 1) + s.de
  · rw [if_pos b7] at h; omega
  obtain ⟨h1, h2, h3, h4, h5, h6⟩ := rowsB_rows (by simpa using b4)
  have hs := sut_within (by simpa using b3)
  have hp := plain_bound (by omega) hs (h1 (by omega)) (h2 (by omega))
  exact ⟨by omega, by omega, hs, h1 (by omega), h2 (by omega), h3 (by omega), h4 (by omega), h5 (by omega), h6 (by omega), by omega, by omega, by omega⟩
end Go.Proofs.Ytjiahcfegfimmaa

/-
  What a letter means: the walk of suitOf.
-/
namespace Go.Proofs.Ytjiahcfegfimmaa
open Go.RowKit

/-- The letters of suits, winds, dragons and flowers. -/
def lets6 : List Int := [109, 112, 115, 119, 100, 102]
/-- A letter or its capital one; no flower is red. -/
def matchB (c x : Int) : Bool := decide (c = x) || (decide (c ≠ 70) && decide (c = x - 32))
def suitAt (k : Nat) : Int := if 2 < k then 2 - (k : Int) else (k : Int)
def suitG (c : Int) (k : Nat) : List Int → Int
  | [] => -4
  | x :: l => if matchB c x = true then suitAt k else suitG c (k + 1) l
def suitN (c : Int) : Int := suitG c 0 lets6
theorem suitG_step (c : Int) {k : Nat} (h : k < lets6.length) : suitG c k (lets6.drop k) = if matchB c lets6[k] = true then suitAt k else suitG c (k + 1) (lets6.drop (k + 1)) := by
  rw [List.drop_eq_getElem_cons h]; rfl
theorem lets_at {k : Nat} (h : k < lets6.length) : 97 ≤ lets6[k] ∧ lets6[k] ≤ 122 := by
  have hx : lets6[k] ∈ lets6 := List.getElem_mem h
  revert hx
  generalize lets6[k] = x
  intro hx
  simp [lets6] at hx
  omega
theorem suitAt_bound {k : Nat} (h : k < 6) : -3 ≤ suitAt k ∧ suitAt k ≤ 2 := by unfold suitAt; split <;> omega
theorem suitG_bound (c : Int) (l : List Int) : ∀ k : Nat, k + l.length ≤ 6 → -4 ≤ suitG c k l ∧ suitG c k l ≤ 2 := by
  induction l with
  | nil => intro k _; simp [suitG]
  | cons x l ih =>
    intro k h
    simp at h
    rw [suitG]
    split
    · have := suitAt_bound (k := k) (by omega); omega
    · exact ih (k + 1) (by omega)
theorem suitN_bound (c : Int) : -4 ≤ suitN c ∧ suitN c ≤ 2 := suitG_bound c lets6 0 (by simp [lets6])
abbrev litS : ByteArray := { data := #[109, 112, 115, 119, 100, 102] }
theorem lit_at : ∀ (k : Nat) (h : k < litS.size), ((litS[k]'h).toNat : Int) = lets6.getD k 0 ∧ (litS[k]'h).toNat < 128 := by
  have : ∀ k : Fin 6, ((litS[k.1]'(by have := k.2; show k.1 < 6; omega)).toNat : Int) = lets6.getD k.1 0 ∧ (litS[k.1]'(by have := k.2; show k.1 < 6; omega)).toNat < 128 := by decide
  intro k h
  exact this ⟨k, h⟩

set_option maxRecDepth 100000 in
set_option maxHeartbeats 4000000 in
theorem suitOf_any (c : Int) (w : World) : Calls Try.prog 101 #[.int .i32 c] w (Gives w (.int .i64 (suitN c))) := by
  have hfin : ∀ r wf, suitN c = r → Grow w wf → Gives w (.int .i64 (suitN c)) (.returned (.int .i64 r)) wf := fun r wf h hg => ⟨by rw [h], hg⟩
  have HF := hid hfin
  clear hfin
  go_enter Try.func101, Try.ntmps101
  go_wp2
  have hit : (w.iter litS 0).heap[w.heap.size]? = some (.stringIter litS 0) := World.iter_heap w litS 0
  have hgw : Grow w (w.iter litS 0) := (Grow.refl w).alloc _
  have IT := hid (And.intro hit hgw)
  clear hit hgw
  go_loopw [3, 4] (fun _ _ wr => ∃ pos : Nat, pos ≤ 6 ∧ wr.heap[w.heap.size]? = some (.stringIter litS pos) ∧ suitG c pos (lets6.drop pos) = suitN c ∧ Grow w wr) (fun _ _ wr => 6 - wr.iterPos w.heap.size)
  case atStart => exact ⟨0, Nat.zero_le _, IT.out.1, rfl, IT.out.2⟩
  case round =>
    obtain ⟨pos, hpos, hk, hsg, hgr⟩ := hrel
    by_cases hlt : pos < 6
    · have hs : pos < litS.size := hlt
      obtain ⟨la, l128⟩ := lit_at pos hs
      have hl6 : pos < lets6.length := hlt
      rw [suitG_step c hl6] at hsg
      have hx := lets_at hl6
      rw [show lets6.getD pos 0 = lets6[pos] by simp [List.getD, hl6]] at la
      have hnext : ∀ ty, (Instr.next (.pointer (some ⟨w.heap.size, 0, none⟩)) true ty).run Try.prog wr = _ := fun ty => Lib.run_next_ascii_at wr w.heap.size litS pos ty hk hs l128
      rw [la] at hnext
      have hk1 := Lib.iterAt_heap wr w.heap.size litS pos (pos + 1) hk
      have hg1 : Grow w (wr.iterAt w.heap.size litS (pos + 1)) := Lib.below_iterAt hgr (Nat.le_refl _) litS (pos + 1)
      have hmu : wr.iterPos w.heap.size = pos := by simp [World.iterPos, hk]
      have HSG := hid hsg
      have HMU := hid (And.intro hmu hk1)
      clear hsg hmu hk la l128 hk1
      generalize wr.iterAt w.heap.size litS (pos + 1) = W1 at *
      generalize lets6[pos] = x at *
      have p0 : (0 : Int) ≤ (pos : Int) := by omega
      have p1 : (pos : Int) ≤ 6 := by omega
      have w1 : IntKind.i32.wrap (x - 97) = x - 97 := by unfold IntKind.wrap; simp [IntKind.bits, IntKind.signed]; omega
      have w2 : IntKind.i32.wrap (x - 97 + 65) = x - 97 + 65 := by unfold IntKind.wrap; simp [IntKind.bits, IntKind.signed]; omega
      by_cases hm : matchB c x = true
      · rw [if_pos hm] at HSG
        by_cases he : c = x
        · have f1 : (c == x) = true := by simp [he]
          clear hm he
          by_cases h2 : 2 < pos
          · have d2 : (2 : Int) < (pos : Int) := by omega
            have HR := hid (show suitAt pos = 2 - (pos : Int) from if_pos h2)
            go_wp2
            go_ret
            exact HF.out _ _ (HSG.out.symm.trans HR.out) hg1
          · have d2 : ¬ (2 : Int) < (pos : Int) := by omega
            have HR := hid (show suitAt pos = (pos : Int) from if_neg h2)
            go_wp2
            go_ret
            exact HF.out _ _ (HSG.out.symm.trans HR.out) hg1
        · have f1 : (c == x) = false := by simp [he]
          have f4 : (c != 70) = true := by unfold matchB at hm; simp [he] at hm; simp [hm.1]
          have f3 : (c == x - 97 + 65) = true := by unfold matchB at hm; simp [he] at hm; simp; omega
          clear hm he
          by_cases h2 : 2 < pos
          · have d2 : (2 : Int) < (pos : Int) := by omega
            have HR := hid (show suitAt pos = 2 - (pos : Int) from if_pos h2)
            go_wp2
            go_ret
            exact HF.out _ _ (HSG.out.symm.trans HR.out) hg1
          · have d2 : ¬ (2 : Int) < (pos : Int) := by omega
            have HR := hid (show suitAt pos = (pos : Int) from if_neg h2)
            go_wp2
            go_ret
            exact HF.out _ _ (HSG.out.symm.trans HR.out) hg1
      · rw [if_neg hm] at HSG
        unfold matchB at hm
        have f1 : (c == x) = false := by
          simp at hm ⊢
          omega
        have f3 : (c == x - 97 + 65) = false ∨ c = 70 := by
          simp at hm ⊢
          omega
        by_cases h70 : c = 70
        · have f4 : (c != 70) = false := by simp [h70]
          clear f3 hm h70
          go_wp2
          exact ⟨⟨pos + 1, by omega, HMU.out.2, HSG.out, hg1⟩, by rw [HMU.out.1, show W1.iterPos w.heap.size = pos + 1 by simp [World.iterPos, HMU.out.2]]; omega⟩
        · have f4 : (c != 70) = true := by simp [h70]
          have f3 : (c == x - 97 + 65) = false := by rcases f3 with h | h; exact h; exact absurd h h70
          clear hm h70
          go_wp2
          exact ⟨⟨pos + 1, by omega, HMU.out.2, HSG.out, hg1⟩, by rw [HMU.out.1, show W1.iterPos w.heap.size = pos + 1 by simp [World.iterPos, HMU.out.2]]; omega⟩
    · have hs : ¬ pos < litS.size := hlt
      have hnext : ∀ ty, (Instr.next (.pointer (some ⟨w.heap.size, 0, none⟩)) true ty).run Try.prog wr = _ := fun ty => Lib.run_next_end_at wr w.heap.size litS pos ty hk hs
      have HSG := hid (show (-4 : Int) = suitN c by rw [← hsg, List.drop_eq_nil_of_le (by simp [lets6]; omega)]; rfl)
      clear hsg hk
      go_wp2
      go_ret
      exact HF.out _ _ HSG.out.symm hgr
end Go.Proofs.Ytjiahcfegfimmaa
