/-
  Groups of digits with their letters: lists of them in memory; what the loop over a text keeps.
-/
import Derived.Test.YtjiahcfegfimmaaKnown31
import Derived.Test.YtjiahcfegfimmaaKnown03
import Derived.Test.YtjiahcfegfimmaaKnown32
namespace Go.Proofs.Ytjiahcfegfimmaa
open Go.RowKit

abbrev Grp := Int × List Int
def lastB (out : List Grp) (c : Int) : Bool := match out.getLast? with
  | none => false
  | some g => decide (g.1 = c)
/-- The groups of a text, from here on; none: it is not built so. -/
def grpF : List Grp → List Int → List Int → Option (List Grp × List Int)
  | out, cur, [] => some (out, cur)
  | out, cur, c :: l =>
    if 49 ≤ c ∧ c ≤ 57 then grpF out (cur ++ [c - 49]) l
    else if suitN c = -4 then none
    else if cur = [] ∨ lastB out c = true then none
    else grpF (out ++ [(c, cur)]) [] l
/-- The cells of groups, of which the ranks lie in these slices. -/
def grpCells : List Grp → List Value → List Value
  | g :: gs, u :: us => .int .i32 g.1 :: u :: grpCells gs us
  | _, _ => []
theorem grpCells_length {gs : List Grp} {us : List Value} (h : us.length = gs.length) : (grpCells gs us).length = gs.length * 2 := by
  induction gs generalizing us with
  | nil => cases us <;> rfl
  | cons g l ih =>
    cases us with
    | nil => simp at h
    | cons u us =>
      simp at h
      simp [grpCells, ih h]; omega
theorem grpCells_snoc {gs : List Grp} {us : List Value} (h : us.length = gs.length) (g : Grp) (u : Value) : grpCells (gs ++ [g]) (us ++ [u]) = grpCells gs us ++ [.int .i32 g.1, u] := by
  induction gs generalizing us with
  | nil => cases us with
    | nil => rfl
    | cons _ _ => simp at h
  | cons x l ih =>
    cases us with
    | nil => simp at h
    | cons v us =>
      simp at h
      simp [grpCells, ih h]
theorem grpCells_let {gs : List Grp} {us : List Value} (h : us.length = gs.length) {k : Nat} (hk : k < gs.length) : (grpCells gs us)[k * 2]? = some (.int .i32 gs[k].1) := by
  induction gs generalizing us k with
  | nil => simp at hk
  | cons x l ih =>
    cases us with
    | nil => simp at h
    | cons v us =>
      simp at h
      cases k with
      | zero => rfl
      | succ k =>
        simp at hk
        have := ih h hk
        rw [show (k + 1) * 2 = k * 2 + 1 + 1 by omega]
        simpa [grpCells] using this
theorem grpCells_ranks {gs : List Grp} {us : List Value} (h : us.length = gs.length) {k : Nat} (hk : k < gs.length) : (grpCells gs us)[k * 2 + 1]? = us[k]? := by
  induction gs generalizing us k with
  | nil => simp at hk
  | cons x l ih =>
    cases us with
    | nil => simp at h
    | cons v us =>
      simp at h
      cases k with
      | zero => rfl
      | succ k =>
        simp at hk
        have := ih h hk
        rw [show (k + 1) * 2 + 1 = k * 2 + 1 + 1 + 1 by omega]
        simpa [grpCells] using this
theorem infoGrp : (Try.prog.info? 112).map (fun i => (i.zero, i.size, i.bytes)) = some (some (.agg #[.int .i32 0, .slice none 0 0]), 2, 32) := by kernel_rfl
/-- The call began in w0; it owns the slice v, that holds these groups. -/
def OwnGr (w0 w : World) (v : Value) (gs : List Grp) (us : List Value) : Prop := w.ownsRow w0.heap.size 112 2 v gs.length (grpCells gs us)
theorem OwnGr.keep {w0 w w' : World} {v : Value} {gs : List Grp} {us : List Value} (h : OwnGr w0 w v gs us) (hk : ∀ k, v.ownBlock = some k → w'.heap[k]? = w.heap[k]?) : OwnGr w0 w' v gs us := by
  refine ⟨h.1, ?_⟩
  rcases h.2 with hn | ⟨g, cap, cur, e, hb, hh, r⟩
  · exact .inl hn
  · exact .inr ⟨g, cap, cur, e, hb, (hk g (by rw [e]; rfl)).trans hh, r⟩
theorem OwnGr.blk {w0 w : World} {v : Value} {gs : List Grp} {us : List Value} (h : OwnGr w0 w v gs us) {k : Nat} (hk : v.ownBlock = some k) : w0.heap.size ≤ k ∧ k < w.heap.size ∧ ∃ cur, w.heap[k]? = some (.cells cur 112 (0, 0)) := by
  rcases h.2 with ⟨e, _⟩ | ⟨g, cap, cur, e, hb, hh, r⟩
  · rw [e] at hk; cases hk
  · rw [e] at hk
    have : k = g := by simpa [Value.ownBlock] using hk.symm
    subst this
    exact ⟨hb, lt_of_block hh, cur, hh⟩
theorem OwnGr.open_ {w0 w : World} {v : Value} {gs : List Grp} {us : List Value} (h : OwnGr w0 w v gs us) : ∃ A c, v = .slice A gs.length c ∧ gs.length ≤ c ∧ c ≤ maxLen ∧ (us.length = gs.length → Rd w A (grpCells gs us)) := by
  rcases h.2 with ⟨rfl, hn⟩ | ⟨g, cap, cur, rfl, _, _, hn, hm, _⟩
  · have hz : gs = [] := List.eq_nil_of_length_eq_zero hn
    subst hz
    exact ⟨none, 0, rfl, Nat.le_refl _, Nat.zero_le _, fun _ => by simp [grpCells]; exact Rd.nil⟩
  · exact ⟨_, _, rfl, hn, hm, fun _ => Rd.of_own h⟩
/-- 'append(out, g)': where the new slice lies is said. -/
theorem run_append_grp (w0 w : World) (t ty : TypeId) (ht : Try.prog.underlying t = some (.slice 112)) (c : Int) (u : Value) (hu : u.oneCell' = true) (r : List Int) (v : Value) (gs : List Grp) (us : List Value) (hul : us.length = gs.length) (hown : OwnGr w0 w v gs us) (hl : gs.length ≤ 1000000000) (hg : Grow w0 w) :
    ∃ v' w', (Builtin.append_ #[t, t] ty #[v, .slice (some ⟨w.heap.size, 0, none⟩) 1 1]).run Try.prog (w.alloc (.cells #[.int .i32 c, u] 112)) = .ok v' w' ∧ OwnGr w0 w' v' (gs ++ [(c, r)]) (us ++ [u]) ∧ Grow w0 w' ∧ (w.alloc (.cells #[.int .i32 c, u] 112)).grownBy w' v.ownBlock ∧ (v'.ownBlock = v.ownBlock ∨ v'.ownBlock = some (w.alloc (.cells #[.int .i32 c, u] 112)).heap.size) := by
  obtain ⟨i0, hi0, hz0, hz1, hz2⟩ := info_parts infoGrp
  obtain ⟨v', w', hrun, h1, h2, _, h3⟩ := run_append_own_at (P := Try.prog) (w.alloc (.cells #[.int .i32 c, u] 112)) w0.heap.size t ty 112 i0 _ 2 32 ht hi0 hz0 hz1 hz2 rfl (by decide) v gs.length (grpCells gs us) (World.ownsRow.alloc hown _) ⟨w.heap.size, 0, none⟩ 1 1 [.int .i32 c, u] rfl
    (World.news_of_block (cs := #[.int .i32 c, u]) (t := 112) (fr := (0, 0)) (heap_alloc_new w _)) (fun x hx => by rcases List.mem_cons.1 hx with rfl | hx; rfl; rw [List.mem_singleton] at hx; subst hx; exact hu) (by unfold maxLen; omega) (by omega) (by have := hg.size; simp; omega)
  refine ⟨v', w', hrun, ?_, (hg.alloc _).own h2 (fun k hk => (hown.blk hk).1), h2, h3⟩
  have e1 : (gs ++ [(c, r)]).length = gs.length + 1 := by simp
  unfold OwnGr
  rw [e1, grpCells_snoc hul]
  exact h1

/-- What the loop over a text keeps. -/
structure GrpSt (w wr : World) (T IT : Nat) (S : ByteArray) (l : List Int) (pos : Nat) (vo vc : Value) (gs : List Grp) (us : List Value) (cur : List Int) : Prop where
  it : wr.heap[IT]? = some (.stringIter S pos)
  blk : Blk wr T 112 [.int .i32 0, vc]
  own : Own w wr vc cur
  out : OwnGr w wr vo gs us
  ne : vo.ownBlock ≠ some T
  ulen : us.length = gs.length
  done : ∀ (i : Nat) (u : Value) (g : Grp), us[i]? = some u → gs[i]? = some g → Own w wr u g.2 ∧ ∀ k, u.ownBlock = some k → vc.ownBlock ≠ some k
  one : ∀ u ∈ us, u.oneCell' = true
  hT : w.heap.size ≤ T
  hI : w.heap.size ≤ IT
  gr : Grow w wr
  run : grpF gs cur (l.drop pos) = grpF [] [] l
  gl : gs.length ≤ pos
  cl : cur.length ≤ pos
section
variable {w wr : World} {T IT : Nat} {S : ByteArray} {l : List Int} {pos : Nat} {vo vc : Value} {gs : List Grp} {us : List Value} {cur : List Int}
theorem GrpSt.tlt (h : GrpSt w wr T IT S l pos vo vc gs us cur) : T < wr.heap.size := h.blk.lt
theorem GrpSt.ilt (h : GrpSt w wr T IT S l pos vo vc gs us cur) : IT < wr.heap.size := lt_of_block h.it
theorem GrpSt.curT (h : GrpSt w wr T IT S l pos vo vc gs us cur) {k : Nat} (hk : vc.ownBlock = some k) : k ≠ T ∧ k ≠ IT ∧ vo.ownBlock ≠ some k := by
  obtain ⟨_, _, c, hc⟩ := h.own.blk hk
  have hb : wr.heap[T]? = some (.cells #[.int .i32 0, vc] 112 (0, 0)) := h.blk
  refine ⟨fun e => ?_, fun e => ?_, fun e => ?_⟩
  · rw [e, hb] at hc; injection hc with hc; injection hc with _ hc; exact absurd hc (by decide)
  · rw [e, h.it] at hc; injection hc with hc; cases hc
  · obtain ⟨_, _, c2, hc2⟩ := h.out.blk e
    rw [hc] at hc2; injection hc2 with hc2; injection hc2 with _ hc2; exact absurd hc2 (by decide)
theorem GrpSt.outI (h : GrpSt w wr T IT S l pos vo vc gs us cur) {k : Nat} (hk : vo.ownBlock = some k) : k ≠ T ∧ k ≠ IT := by
  obtain ⟨_, _, c, hc⟩ := h.out.blk hk
  refine ⟨fun e => h.ne (by rw [hk, e]), fun e => ?_⟩
  rw [e, h.it] at hc; injection hc with hc; cases hc
theorem GrpSt.doneT (h : GrpSt w wr T IT S l pos vo vc gs us cur) {i : Nat} {u : Value} {g : Grp} (hu : us[i]? = some u) (hg : gs[i]? = some g) {k : Nat} (hk : u.ownBlock = some k) : k ≠ T ∧ k ≠ IT ∧ vo.ownBlock ≠ some k ∧ vc.ownBlock ≠ some k ∧ k < wr.heap.size := by
  obtain ⟨h1, h2⟩ := h.done i u g hu hg
  obtain ⟨_, hlt, c, hc⟩ := h1.blk hk
  have hb : wr.heap[T]? = some (.cells #[.int .i32 0, vc] 112 (0, 0)) := h.blk
  refine ⟨fun e => ?_, fun e => ?_, fun e => ?_, h2 k hk, hlt⟩
  · rw [e, hb] at hc; injection hc with hc; injection hc with _ hc; exact absurd hc (by decide)
  · rw [e, h.it] at hc; injection hc with hc; cases hc
  · obtain ⟨_, _, c2, hc2⟩ := h.out.blk e
    rw [hc] at hc2; injection hc2 with hc2; injection hc2 with _ hc2; exact absurd hc2 (by decide)
theorem own_block_of {w0 w : World} {ad : Addr} {n c : Nat} {gs : List Grp} {us : List Value} (h : OwnGr w0 w (.slice (some ad) n c) gs us) : (Value.slice (some ad) n c).ownBlock = some ad.block := by
  rcases h.2 with ⟨e, _⟩ | ⟨g, cap, cur, e, _⟩
  · cases e
  · injection e with e1 _ _
    injection e1 with e1
    subst e1
    rfl
/-- The letter after next: a digit has been put behind the ranks. -/
theorem GrpSt.digit (h : GrpSt w wr T IT S l pos vo vc gs us cur) {c : Int} (hp : pos < l.length) (hc : l[pos] = c) (hd : 49 ≤ c ∧ c ≤ 57) {w2 w3 : World} {v' : Value}
    (g2 : Grow wr w2 ∨ ∀ k, k ≠ IT → k < wr.heap.size → w2.heap[k]? = wr.heap[k]?) (hs2 : wr.heap.size ≤ w2.heap.size) (hi2 : w2.heap[IT]? = some (.stringIter S (pos + 1)))
    (ho : Own w w3 v' (cur ++ [c - 49])) (hg : Grow w w3) (hgb : w2.grownBy w3 vc.ownBlock) (ha : v'.ownBlock = vc.ownBlock ∨ v'.ownBlock = some w2.heap.size) :
    GrpSt w (w3.setCell ⟨T, 1, none⟩ v') T IT S l (pos + 1) vo v' gs us (cur ++ [c - 49]) := by
  have hold : ∀ k, k ≠ IT → k < wr.heap.size → w2.heap[k]? = wr.heap[k]? := fun k hk hl => by
    rcases g2 with g2 | g2
    · exact g2.blk hl
    · exact g2 k hk hl
  have hTI : T ≠ IT := fun e => by
    have hb : wr.heap[T]? = some (.cells #[.int .i32 0, vc] 112 (0, 0)) := h.blk
    rw [e, h.it] at hb; injection hb with hb; cases hb
  have hcT := fun k (hk : vc.ownBlock = some k) => h.curT hk
  have bT : Blk w3 T 112 [.int .i32 0, vc] := by
    have h1 := hgb.block T (by have := h.tlt; omega) (fun e => (hcT T e.symm).1 rfl)
    have h2 := hold T hTI h.tlt
    exact (h1.trans h2).trans h.blk
  have far : ∀ k, k ≠ T → k ≠ IT → k < wr.heap.size → vc.ownBlock ≠ some k → (w3.setCell ⟨T, 1, none⟩ v').heap[k]? = wr.heap[k]? := fun k h1 h2 h3 h4 => by
    rw [Below.heap_setCell w3 ⟨T, 1, none⟩ v' k h1]
    exact (hgb.block k (by omega) (fun e => h4 e.symm)).trans (hold k h2 h3)
  have hv'T : ∀ k, v'.ownBlock = some k → k ≠ T := fun k hk e => by
    rcases ha with h1 | h1
    · rw [h1] at hk; exact (hcT k hk).1 e
    · rw [h1] at hk; injection hk with hk; have := h.tlt; omega
  refine ⟨?_, ?_, ho.keep fun k hk => Below.heap_setCell w3 ⟨T, 1, none⟩ v' k (hv'T k hk), h.out.keep fun k hk => ?_, h.ne, h.ulen, fun i u g hu hgi => ⟨(h.done i u g hu hgi).1.keep fun k hk => ?_, fun k hk => ?_⟩, h.one, h.hT, h.hI, hg.set (p := ⟨T, 1, none⟩) h.hT v', ?_, by have := h.gl; omega, by rw [List.length_append]; have := h.cl; simp; omega⟩
  · rw [Below.heap_setCell w3 ⟨T, 1, none⟩ v' IT (fun e => hTI e.symm)]
    exact (hgb.block IT (by have := h.ilt; omega) (fun e => (hcT IT e.symm).2.1 rfl)).trans hi2
  · exact bT.set 1 v'
  · obtain ⟨h1, h2⟩ := h.outI hk
    exact far k h1 h2 (h.out.blk hk).2.1 (fun e => (hcT k e).2.2 hk)
  · obtain ⟨h1, h2, h3, h4, h5⟩ := h.doneT hu hgi hk
    exact far k h1 h2 h5 h4
  · obtain ⟨h1, h2, h3, h4, h5⟩ := h.doneT hu hgi hk
    rcases ha with e | e
    · rw [e]; exact h4
    · rw [e]; intro e2; injection e2 with e2; omega
  · rw [← h.run, List.drop_eq_getElem_cons hp, hc, grpF, if_pos hd]
theorem GrpSt.one_cur (h : GrpSt w wr T IT S l pos vo vc gs us cur) : vc.oneCell' = true := by
  obtain ⟨A, c, rfl, _⟩ := h.own.is
  rfl
/-- A digit: the run of the append, and what is kept behind the store. -/
theorem GrpSt.digit_out (h : GrpSt w wr T IT S l pos vo vc gs us cur) {c : Int} (hp : pos < l.length) (hc : l[pos] = c) (hd : 49 ≤ c ∧ c ≤ 57) (hl : l.length ≤ 1000000) (t ty : TypeId) (ht : Try.prog.underlying t = some (.slice 3)) :
    ∃ v' w3, (Builtin.append_ #[t, t] ty #[vc, .slice (some ⟨wr.heap.size, 0, none⟩) 1 1]).run Try.prog ((wr.iterAt IT S (pos + 1)).alloc (.cells #[.int .i64 (c - 49)] 3)) = .ok v' w3 ∧
      GrpSt w (w3.setCell ⟨T, 1, none⟩ v') T IT S l (pos + 1) vo v' gs us (cur ++ [c - 49]) ∧ (∃ u0, w3.cell? ⟨T, 1, none⟩ = some u0) ∧ w3.frozen? ⟨T, 1, none⟩ = false := by
  have hsz := Lib.iterAt_size wr IT S (pos + 1)
  have hold : ∀ k, k ≠ IT → k < wr.heap.size → ((wr.iterAt IT S (pos + 1)).alloc (.cells #[.int .i64 (c - 49)] 3)).heap[k]? = wr.heap[k]? := fun k hk hlt => by
    rw [((Grow.refl (wr.iterAt IT S (pos + 1))).alloc (.cells #[.int .i64 (c - 49)] 3)).blk (by omega)]
    exact Lib.iterAt_other wr IT k S (pos + 1) hk
  have hi2 : ((wr.iterAt IT S (pos + 1)).alloc (.cells #[.int .i64 (c - 49)] 3)).heap[IT]? = some (.stringIter S (pos + 1)) := by
    rw [((Grow.refl (wr.iterAt IT S (pos + 1))).alloc (.cells #[.int .i64 (c - 49)] 3)).blk (by have := h.ilt; omega)]
    exact Lib.iterAt_heap wr IT S pos (pos + 1) h.it
  have hg2 : Grow w ((wr.iterAt IT S (pos + 1)).alloc (.cells #[.int .i64 (c - 49)] 3)) := Grow.alloc (Lib.below_iterAt h.gr h.hI S (pos + 1)) _
  have hs2 : ((wr.iterAt IT S (pos + 1)).alloc (.cells #[.int .i64 (c - 49)] 3)).heap.size = wr.heap.size + 1 := by simp [hsz]
  have ix : IsInts ((wr.iterAt IT S (pos + 1)).alloc (.cells #[.int .i64 (c - 49)] 3)) (.slice (some ⟨wr.heap.size, 0, none⟩) 1 1) [c - 49] := by
    have := heap_alloc_new (wr.iterAt IT S (pos + 1)) (.cells #[.int .i64 (c - 49)] 3)
    rw [hsz] at this
    exact ints_cell this
  have oc : Own w ((wr.iterAt IT S (pos + 1)).alloc (.cells #[.int .i64 (c - 49)] 3)) vc cur := h.own.keep fun k hk => hold k (h.curT hk).2.1 (h.own.blk hk).2.1
  obtain ⟨v', w3, hr, ho, hg3, hgb, ha⟩ := run_append_at w _ t ty ht vc _ cur [c - 49] oc ix (by have := h.cl; simp; omega) hg2
  have bT : Blk w3 T 112 [.int .i32 0, vc] := by
    have hTI : T ≠ IT := fun e => by
      have hb : wr.heap[T]? = some (.cells #[.int .i32 0, vc] 112 (0, 0)) := h.blk
      rw [e, h.it] at hb; injection hb with hb; cases hb
    exact ((hgb.block T (by have := h.tlt; omega) (fun e => (h.curT e.symm).1 rfl)).trans (hold T hTI h.tlt)).trans h.blk
  exact ⟨v', w3, hr, h.digit hp hc hd (.inr hold) (by omega) hi2 ho hg3 hgb ha, ⟨vc, by rw [bT.cell]; rfl⟩, bT.free 1⟩
/-- A letter: the run of the append, and what is kept behind the stores. -/
theorem GrpSt.letter_out (h : GrpSt w wr T IT S l pos vo vc gs us cur) {c : Int} (hp : pos < l.length) (hc : l[pos] = c) (hd : ¬ (49 ≤ c ∧ c ≤ 57)) (hs : suitN c ≠ -4) (hno : ¬ (cur = [] ∨ lastB gs c = true)) (hl : l.length ≤ 1000000) {W2 : World} (hg2 : Grow (wr.iterAt IT S (pos + 1)) W2)
    (t ty : TypeId) (ht : Try.prog.underlying t = some (.slice 112)) :
    ∃ v' w4, (Builtin.append_ #[t, t] ty #[vo, .slice (some ⟨W2.heap.size, 0, none⟩) 1 1]).run Try.prog ((W2.setCell ⟨T, 0, none⟩ (.int .i32 c)).alloc (.cells #[.int .i32 c, vc] 112)) = .ok v' w4 ∧
      GrpSt w ((w4.setCell ⟨T, 0, none⟩ (.int .i32 0)).setCell ⟨T, 1, none⟩ (.slice none 0 0)) T IT S l (pos + 1) v' (.slice none 0 0) (gs ++ [(c, cur)]) (us ++ [vc]) [] ∧
      w4.cell? ⟨T, 0, none⟩ = some (.int .i32 c) ∧ w4.cell? ⟨T, 1, none⟩ = some vc ∧ w4.frozen? ⟨T, 0, none⟩ = false ∧ w4.frozen? ⟨T, 1, none⟩ = false := by
  have hsz := Lib.iterAt_size wr IT S (pos + 1)
  have hsw := hg2.size
  have hTI : T ≠ IT := fun e => by
    have hb : wr.heap[T]? = some (.cells #[.int .i32 0, vc] 112 (0, 0)) := h.blk
    rw [e, h.it] at hb; injection hb with hb; cases hb
  have htl := h.tlt
  have hil := h.ilt
  -- the world behind the letter's store
  obtain ⟨W3, hW3⟩ : ∃ W3, W3 = W2.setCell ⟨T, 0, none⟩ (.int .i32 c) := ⟨_, rfl⟩
  have hs3 : W3.heap.size = W2.heap.size := by rw [hW3]; simp
  have hold : ∀ k, k ≠ IT → k ≠ T → k < wr.heap.size → W3.heap[k]? = wr.heap[k]? := fun k hk hkT hlt => by
    rw [hW3, Below.heap_setCell W2 ⟨T, 0, none⟩ _ k hkT, hg2.blk (by omega)]
    exact Lib.iterAt_other wr IT k S (pos + 1) hk
  have hi3 : W3.heap[IT]? = some (.stringIter S (pos + 1)) := by
    rw [hW3, Below.heap_setCell W2 ⟨T, 0, none⟩ _ IT (fun e => hTI e.symm), hg2.blk (by omega)]
    exact Lib.iterAt_heap wr IT S pos (pos + 1) h.it
  have b2 : Blk W2 T 112 [.int .i32 0, vc] := by
    have h1 := hg2.blk (k := T) (by omega)
    exact (h1.trans (Lib.iterAt_other wr IT T S (pos + 1) hTI)).trans h.blk
  have b3 : Blk W3 T 112 [.int .i32 c, vc] := by rw [hW3]; exact b2.set 0 _
  have hg3 : Grow w W3 := by
    rw [hW3]
    exact ((show Grow w (wr.iterAt IT S (pos + 1)) from Lib.below_iterAt h.gr h.hI S (pos + 1)).trans hg2).set (p := ⟨T, 0, none⟩) h.hT _
  have oo : OwnGr w W3 vo gs us := h.out.keep fun k hk => hold k (h.outI hk).2 (h.outI hk).1 (h.out.blk hk).2.1
  obtain ⟨v', w4, hr, ho, hg4, hgb, ha⟩ := run_append_grp w W3 t ty ht c vc h.one_cur cur vo gs us h.ulen oo (by have := h.gl; omega) hg3
  rw [hs3] at hr
  have hsa : (W3.alloc (.cells #[.int .i32 c, vc] 112)).heap.size = W2.heap.size + 1 := by simp [hs3]
  have back : ∀ k, k < W3.heap.size → vo.ownBlock ≠ some k → w4.heap[k]? = W3.heap[k]? := fun k hk hne =>
    (hgb.block k (by omega) (fun e => hne e.symm)).trans (((Grow.refl W3).alloc _).blk hk)
  have b4 : Blk w4 T 112 [.int .i32 c, vc] := (back T (by omega) h.ne).trans b3
  have b5 := (b4.set 0 (.int .i32 0)).set 1 (.slice none 0 0)
  have v'T : ∀ k, v'.ownBlock = some k → k ≠ T := fun k hk e => by
    rcases ha with h1 | h1
    · rw [h1] at hk; exact (h.outI hk).1 e
    · rw [h1] at hk; injection hk with hk; omega
  have far : ∀ k, k ≠ T → ((w4.setCell ⟨T, 0, none⟩ (.int .i32 0)).setCell ⟨T, 1, none⟩ (.slice none 0 0)).heap[k]? = w4.heap[k]? := fun k hk => by
    rw [Below.heap_setCell _ ⟨T, 1, none⟩ _ k hk, Below.heap_setCell _ ⟨T, 0, none⟩ _ k hk]
  have away : ∀ k, k ≠ T → k ≠ IT → vo.ownBlock ≠ some k → k < wr.heap.size → ((w4.setCell ⟨T, 0, none⟩ (.int .i32 0)).setCell ⟨T, 1, none⟩ (.slice none 0 0)).heap[k]? = wr.heap[k]? := fun k h1 h2 h3 h4 =>
    (far k h1).trans ((back k (by omega) h3).trans (hold k h2 h1 h4))
  refine ⟨v', w4, by rw [← hW3]; exact hr, ⟨?_, b5, Own.nil _ _, ho.keep fun k hk => far k (v'T k hk), fun e => v'T T e rfl, by simp [h.ulen], fun i u g hu hgi => ?_, fun u hu => ?_, h.hT, h.hI, (hg4.set (p := ⟨T, 0, none⟩) h.hT _).set (p := ⟨T, 1, none⟩) h.hT _, ?_, by rw [List.length_append]; have := h.gl; simp; omega, by simp⟩, by rw [b4.cell]; rfl, by rw [b4.cell]; rfl, b4.free 0, b4.free 1⟩
  · rw [far IT (fun e => hTI e.symm), back IT (by omega) (fun e => (h.outI e).2 rfl)]
    exact hi3
  · refine ⟨?_, fun k _ => by simp [Value.ownBlock]⟩
    rw [List.getElem?_append] at hu hgi
    have hul := h.ulen
    by_cases hi : i < gs.length
    · rw [if_pos (by omega)] at hu
      rw [if_pos hi] at hgi
      exact (h.done i u g hu hgi).1.keep fun k hk => by
        obtain ⟨h1, h2, h3, h4, h5⟩ := h.doneT hu hgi hk
        exact away k h1 h2 h3 h5
    · rw [if_neg (by omega)] at hu
      rw [if_neg hi] at hgi
      have h0 : i - gs.length = 0 := by
        by_cases hz : i - gs.length = 0
        · exact hz
        · rw [List.getElem?_eq_none (by simp; omega)] at hgi; cases hgi
      rw [hul, h0] at hu
      rw [h0] at hgi
      simp at hu hgi
      subst hu hgi
      exact h.own.keep fun k hk => by
        obtain ⟨h1, h2, h3⟩ := h.curT hk
        exact away k h1 h2 h3 (h.own.blk hk).2.1
  · rcases List.mem_append.1 hu with hu | hu
    · exact h.one u hu
    · rw [List.mem_singleton] at hu; subst hu; exact h.one_cur
  · rw [← h.run, List.drop_eq_getElem_cons hp, hc, grpF, if_neg hd, if_neg hs, if_neg hno]
end
end Go.Proofs.Ytjiahcfegfimmaa
