/-
  Parts of the proof: HRows, RDealL.
-/
import Derived.Test.YtjiahcfegfimmaaNotes43
import Derived.Test.YtjiahcfegfimmaaNotes45
import Derived.Test.YtjiahcfegfimmaaNotes05
import Derived.BigQuiet
import Derived.Test.YtjiahcfegfimmaaNotes32
import Derived.Test.YtjiahcfegfimmaaNotes10
/-
  Lists of lists: whether they are equal; what a deal of a whole wall hands back; two appends to an empty literal.
-/
namespace Go.Proofs.Ytjiahcfegfimmaa
open Go.RowKit

def IsRows (w : World) (v : Value) (hs : List (List Int)) : Prop := IsList IsInts w v hs
theorem IsRows.grow {w w' : World} {v : Value} {hs : List (List Int)} (h : IsRows w v hs) (g : Grow w w') : IsRows w' v hs := IsList.grow (R := IsInts) (fun _ _ _ _ h g => IsInts.grow h g) h g
theorem IsRows.nil {w : World} : IsRows w (.slice none 0 0) [] := ⟨none, 0, [], rfl, Nat.le_refl _, Nat.zero_le _, rfl, Rd.nil, fun i u x h => by simp at h⟩
theorem Blk.rows {w : World} {G P : Nat} {vs : List Value} {hs : List (List Int)} (h : Blk w G 22 vs) (hl : vs.length = hs.length) (hP : hs.length = P) (hm : P ≤ 1000000) (hr : ∀ (i : Nat) (v : Value) (l : List Int), vs[i]? = some v → hs[i]? = some l → IsInts w v l) : IsRows w (.slice (some ⟨G, 0, none⟩) P P) hs := by
  subst hP
  refine ⟨_, _, vs, rfl, Nat.le_refl _, by unfold maxLen; omega, hl, fun i u hu => ⟨_, rfl, h.lt, ?_⟩, hr⟩
  rw [show (⟨G, 0, none⟩ : Addr).add i = ⟨G, i, none⟩ from by unfold Addr.add; split <;> simp_all, h.cell]
  exact hu
/-- One list of them. -/
theorem IsRows.row {w : World} {A : Option Addr} {n c : Nat} {hs : List (List Int)} (h : IsRows w (.slice A n c) hs) {k : Nat} (hk : k < hs.length) : ∃ ad u, A = some ad ∧ w.cell? (ad.add k) = some u ∧ IsInts w u hs[k] := by
  obtain ⟨A', c', vs, e, h1, h2, h3, h4, h5⟩ := h
  injection e with e1 e2 e3
  subst e1 e2 e3
  obtain ⟨ad, rfl, -, hc⟩ := h4.val (k := k) (by omega)
  exact ⟨ad, _, rfl, hc, h5 k _ _ (List.getElem?_eq_getElem (by omega)) (List.getElem?_eq_getElem hk)⟩

set_option maxHeartbeats 4000000 in
theorem sameHands_same (v1 v2 : Value) (hs : List (List Int)) (w : World) (h1 : IsRows w v1 hs) (h2 : IsRows w v2 hs) : Calls Try.prog 27 #[v1, v2] w (Says w (.bool true)) := by
  have H1 := hid h1
  have H2 := hid h2
  obtain ⟨A, c, _, rfl, hc, hm, _⟩ := h1
  obtain ⟨B, d, _, rfl, hd, hm', _⟩ := h2
  unfold maxLen at hm hm'
  go_enter Try.func27, Try.ntmps27
  go_wp2
  go_loopw [5] (fun i wr => ∃ k : Nat, k ≤ hs.length ∧ i = .int .i64 (k : Int) ∧ ∃ n, wr = w.drewN n) (fun i _ => hs.length - (intOf i).toNat)
  case atStart => exact ⟨0, Nat.zero_le _, rfl, 0, rfl⟩
  case round =>
    obtain ⟨k, hk, rfl, n, rfl⟩ := hrel
    by_cases h0 : k < hs.length
    · obtain ⟨ad, u, rfl, x0, x1⟩ := H1.out.row h0
      obtain ⟨ad', u', rfl, y0, y1⟩ := H2.out.row h0
      have EQ := hid (fun n => Equal_same u u' _ (w.drewN n) (x1.drewN n) (y1.drewN n))
      clear x1 y1
      have i0 : (0 : Int) ≤ (k : Int) := by omega
      have i1 : (k : Int) < (hs.length : Int) := by omega
      go_wp2
      go_quiet ((go_at_call 22; (first | exact q_says' (EQ.out _) | exact q_says (EQ.out _))))
      go_wp2
      exact ⟨⟨k + 1, by omega, by go_num, _, rfl⟩, by simp only [intOf]; omega⟩
    · obtain rfl : k = hs.length := by omega
      have i1 : ¬ (hs.length : Int) < (hs.length : Int) := by omega
      go_wp2
      go_ret
      exact ⟨rfl, _, rfl⟩

/-- What Deal hands back: no error. -/
def DealIs (w : World) (P : Nat) (hs : List (List Int)) (live dead : List Int) (e : Ending) (w' : World) : Prop :=
  ∃ A c A1 c1 A2 c2, e = .returned (.tuple #[.slice A P c, .slice A1 live.length c1, .slice A2 dead.length c2, .int .i64 0]) ∧ IsRows w' (.slice A P c) hs ∧ IsInts w' (.slice A1 live.length c1) live ∧ IsInts w' (.slice A2 dead.length c2) dead ∧ Grow w w'
theorem WallPart.perm {s : TSet} {l m : List Int} (h : WallPart s l) (hp : m.Perm l) : WallPart s m := ⟨fun t ht => h.1 t (hp.mem_iff.1 ht), hp.nodup_iff.2 h.2⟩
theorem dealErr_ok {s : TSet} {l : List Int} {cut d : Int} (e : chkErr s = 0) (h : WallPart s l) (hl : (l.length : Int) = sizeI s) (h0 : 0 ≤ cut) (h1 : cut < sizeI s) (h2 : 0 ≤ d) (h3 : d < s.pl) : dealErr s l cut d = 0 := by
  unfold dealErr
  rw [if_neg (by omega), if_neg (by have := h.once e; omega), if_neg (by omega)]
theorem dealt_len (s : TSet) (l : List Int) (cut d : Int) : (dealtI s l cut d).1.length = s.pl.toNat := by
  unfold dealtI; rw [dealF_len]; simp
theorem deal_is (v v2 : Value) (s : TSet) (l : List Int) (cut d : Int) (w : World) {P : Nat} (h : IsSet w v s) (h2 : IsInts w v2 l) (e : chkErr s = 0) (hp : WallPart s l) (hl : (l.length : Int) = sizeI s) (h0 : 0 ≤ cut) (h1 : cut < sizeI s) (hd0 : 0 ≤ d) (hd1 : d < s.pl) (hP : s.pl = (P : Int)) :
    Calls Try.prog 25 #[v, v2, .int .i64 cut, .int .i64 d] w (DealIs w P (dealtI s l cut d).1 (liveI s l cut d) (deadI s l cut d)) := by
  have he := dealErr_ok e hp hl h0 h1 hd0 hd1
  refine (Deal_any v v2 s l cut d w h h2).mono ?_
  rintro e w' ⟨v1, v2, v3, rfl, hg, -, hr⟩
  obtain ⟨i2, i3, G, vs, rfl, hb, hvl, hrows⟩ := hr he
  obtain ⟨A1, c1, rfl, _⟩ := id i2
  obtain ⟨A2, c2, rfl, _⟩ := id i3
  have hPn : s.pl.toNat = P := by omega
  have hV := valid_of ‹chkErr s = 0›
  have hp4 := hV.pl
  have hlen : (dealtI s l cut d).1.length = P := by rw [dealt_len]; exact hPn
  rw [hPn]
  exact ⟨_, _, A1, c1, A2, c2, by rw [he], hb.rows hvl hlen (by omega) hrows, i2, i3, hg⟩
/-- The wall that begins at the cut. -/
theorem dealt_cut (s : TSet) (l : List Int) (cut d : Int) : dealtI s (l.drop cut.toNat ++ l.take cut.toNat) 0 d = dealtI s l cut d := by
  unfold dealtI; simp
theorem live_cut (s : TSet) (l : List Int) (cut d : Int) : liveI s (l.drop cut.toNat ++ l.take cut.toNat) 0 d = liveI s l cut d := by
  unfold liveI; rw [dealt_cut]
theorem dead_cut (s : TSet) (l : List Int) (cut d : Int) : deadI s (l.drop cut.toNat ++ l.take cut.toNat) 0 d = deadI s l cut d := by
  unfold deadI; rw [dealt_cut]
theorem cut_perm (l : List Int) (k : Nat) : (l.drop k ++ l.take k).Perm l := by
  have := List.perm_append_comm (l₁ := l.drop k) (l₂ := l.take k)
  rwa [List.take_append_drop] at this
/-- Another dealer. -/
theorem dealt_other {s : TSet} {l : List Int} {cut : Int} {P D D' : Nat} (hP : s.pl = (P : Int)) (hd : D < P) (hd' : D' < P) {k : Nat} (hk : k < P) :
    (dealtI s l cut D).1.getD ((D + k) % P) [] = (dealtI s l cut D').1.getD ((D' + k) % P) [] := by
  unfold dealtI
  rw [hP]
  simp only [Int.toNat_natCast]
  exact dealF_rot hd hd' _ _ _ _ _ (by simp) (by simp) (fun k hk => by simp [List.getD, Nat.mod_lt _ (show 0 < P by omega)]) k hk
/-- Two appends to an empty literal. -/
theorem cat_two (t : TypeId) (ht : Try.prog.underlying t = some (.slice 3)) (ty1 ty2 : TypeId) (x y : Value) (xs ys : List Int) (w : World) (hx : IsInts w x xs) (hy : IsInts w y ys) (hl : xs.length + ys.length ≤ 1000000) :
    ∃ v1 w1 A c w2, (Builtin.append_ #[t, t] ty1 #[.slice (some ⟨w.heap.size, 0, none⟩) 0 0, x]).run Try.prog (w.alloc (.cells #[] 3)).drew = .ok v1 w1 ∧
      (Builtin.append_ #[t, t] ty2 #[v1, y]).run Try.prog w1 = .ok (.slice A (xs.length + ys.length) c) w2 ∧ IsInts w2 (.slice A (xs.length + ys.length) c) (xs ++ ys) ∧ Own w w2 (.slice A (xs.length + ys.length) c) (xs ++ ys) ∧ Grow w w2 := by
  have g0 : Grow w (w.alloc (.cells #[] 3)).drew := ((Grow.refl w).alloc _).drew
  have o0 : Own w (w.alloc (.cells #[] 3)).drew (.slice (some ⟨w.heap.size, 0, none⟩) 0 0) [] := (Own.lit0 (Grow.refl w)).keep fun _ _ => rfl
  obtain ⟨v1, w1, r1, o1, g1, b1⟩ := run_append_ints w _ t ty1 ht _ x [] xs o0 (hx.grow g0) (by simp; omega) g0
  rw [List.nil_append] at o1
  obtain ⟨v2, w2, r2, o2, g2, b2⟩ := run_append_ints w w1 t ty2 ht v1 y xs ys o1 (hy.grow g1) (by omega) g1
  obtain ⟨A, c, rfl, _⟩ := id o2.is
  rw [List.length_append] at r2 o2
  exact ⟨v1, w1, A, c, w2, r1, r2, o2.is, o2, g2⟩
end Go.Proofs.Ytjiahcfegfimmaa

/-
  The reference's deal: what its loops keep; whether a wall is whole. Plain laws, and the walk of Whole.
-/
namespace Go.Proofs.Ytjiahcfegfimmaa
open Go.RowKit

theorem mid_opt (t : TypeId) (ht : Try.prog.underlying t = some (.slice 3)) {w5 : World} {A : Option Addr} {n c lo k : Nat} {zs : List Int} {kl kh : Int} (h : IsInts w5 (.slice A n c) zs) (hk : lo + k ≤ n) (hl : kl = (lo : Int)) (hh : kh = (lo : Int) + (k : Int)) :
    ∃ B : Option Addr, (∀ W, (Instr.sliceAt t (.slice A n c) (some (.int .i64 kl)) (some (.int .i64 kh)) none).run Try.prog W = .ok (.slice B k (c - lo)) W) ∧ IsInts w5 (.slice B k (c - lo)) ((zs.drop lo).take k) := by
  subst hl hh
  have hc : n ≤ c := by
    obtain ⟨A', c', e, h1, h2, h3⟩ := id h
    injection e with e1 e2 e3
    subst e1 e2 e3
    exact h1
  have hd := ints_drop h (k := lo) (by omega)
  refine ⟨_, fun W => ?_, ints_first hd (by omega)⟩
  have ht' : Try.prog.underlying t = some (.slice (Try.prog.elem t)) := by rw [elem_ints ht]; exact ht
  rw [run_sliceAt_slice W t _ _ _ _ ht', run_slice_lh W t _ _ _ ht' .i64 .i64 _ _ (by omega) (by omega) (by omega), elem_ints ht, size_int]
  have e1 : ((lo : Int)).toNat = lo := by omega
  have e2 : ((lo : Int) + (k : Int)).toNat = lo + k := by omega
  simp [Result.andThen, sliced, e1, e2]

/-- Ahead of a round of the seats: lk tiles are lacking, at are dealt. -/
def ROut (w5 wr : World) (G P D X : Nat) (z : List (List Int) × List Int) (l : List Int) (lk at_ : Nat) : Prop :=
  ∃ (hs : List (List Int)) (vs : List Value) (f : Nat), Hands w5 wr G vs hs ∧ Grow w5 wr ∧ Enough X P lk (l.drop at_) ∧ lk ≤ f ∧ l.length ≤ 144 ∧ (∀ x ∈ hs, x.length ≤ 208 - 16 * lk) ∧ hs.length = P ∧ dealF P D f lk hs (l.drop at_) = z ∧ at_ ≤ l.length
/-- Within it: i seats have got theirs; x tiles are dealt. -/
def RIn (w5 wr : World) (G P D X : Nat) (z : List (List Int) × List Int) (l : List Int) (lk at_ i x : Nat) : Prop :=
  x = at_ + i * someN lk ∧ ∃ (hs : List (List Int)) (vs : List Value) (f : Nat), Hands w5 wr G vs (giveN P D (someN lk) i hs (l.drop at_)) ∧ Grow w5 wr ∧ Enough X P lk (l.drop at_) ∧ lk ≤ f ∧ l.length ≤ 144 ∧ (∀ x ∈ hs, x.length ≤ 208 - 16 * lk) ∧ hs.length = P ∧ dealF P D f lk hs (l.drop at_) = z ∧ at_ ≤ l.length
theorem ROut.grows {w5 wr : World} {G P D X : Nat} {z : List (List Int) × List Int} {l : List Int} {lk at_ : Nat} (h : ROut w5 wr G P D X z l lk at_) : Grow w5 wr := by
  obtain ⟨_, _, _, _, h, _⟩ := h
  exact h
theorem ROut.more {w5 wr w' : World} {G P D X : Nat} {z : List (List Int) × List Int} {l : List Int} {lk at_ : Nat} (h : ROut w5 wr G P D X z l lk at_) (g : Grow wr w') : ROut w5 w' G P D X z l lk at_ := by
  obtain ⟨hs, vs, f, h2, h3, h4⟩ := h
  exact ⟨hs, vs, f, h2.grow g, h3.trans g, h4⟩
theorem RIn.grows {w5 wr : World} {G P D X : Nat} {z : List (List Int) × List Int} {l : List Int} {lk at_ i x : Nat} (h : RIn w5 wr G P D X z l lk at_ i x) : Grow w5 wr := by
  obtain ⟨_, _, _, _, _, h, _⟩ := h
  exact h
theorem ROut.into {w5 wr : World} {G P D X : Nat} {z : List (List Int) × List Int} {l : List Int} {lk at_ : Nat} (h : ROut w5 wr G P D X z l lk at_) : RIn w5 wr G P D X z l lk at_ 0 at_ := by
  obtain ⟨hs, vs, f, h2, h3, h4, h5, h6, h7, h8, h9⟩ := h
  exact ⟨by simp, hs, vs, f, h2, h3, h4, h5, h6, h7, h8, h9⟩
theorem RIn.out {w5 wr : World} {G P D X : Nat} {z : List (List Int) × List Int} {l : List Int} {lk at_ x : Nat} (hP : P = 3 ∨ P = 4) (hl : 0 < lk) (hl2 : lk ≤ 13) (h : RIn w5 wr G P D X z l lk at_ P x) : ROut w5 wr G P D X z l (lk - someN lk) x := by
  obtain ⟨rfl, hs, vs, f, h2, h3, h4, h5, h6, h7, h8, h9, h10⟩ := h
  have hm : someN lk ≤ 4 ∧ 1 ≤ someN lk := by rcases someN_is lk with h | h <;> omega
  have hE := h4.next hP hl
  have hle : at_ + P * someN lk ≤ l.length := by
    have := h4.step hP hl (i := P - 1) (by omega)
    rw [List.length_drop] at this
    rcases hP with rfl | rfl <;> omega
  rw [List.drop_drop] at hE
  cases f with
  | zero => omega
  | succ f =>
    rw [dealF_succ hl, List.drop_drop] at h9
    refine ⟨_, vs, f, h2, h3, hE, by omega, h6, fun x hx => ?_, by rw [giveN_length]; exact h8, h9, hle⟩
    have hb := giveN_bound hm.1 h7 P x hx
    rcases hP with rfl | rfl <;> rcases someN_is lk with ⟨a, b⟩ | ⟨a, b⟩ <;> rw [b] <;> omega
/-- One seat more has got its tiles. -/
theorem RIn.step {w5 wr w1 : World} {G P D X : Nat} {z : List (List Int) × List Int} {v v' : Value} {l : List Int} {lk at_ i x m : Nat} {hs : List (List Int)} {vs : List Value} {f : Nat} {y : List Int} (hm : someN lk = m) (hx : x = at_ + i * m)
    (h2 : Hands w5 wr G vs (giveN P D (someN lk) i hs (l.drop at_))) (h4 : Enough X P lk (l.drop at_)) (h5 : lk ≤ f) (h6 : l.length ≤ 144) (h7 : ∀ x ∈ hs, x.length ≤ 208 - 16 * lk) (h8 : hs.length = P) (h9 : dealF P D f lk hs (l.drop at_) = z) (h10 : at_ ≤ l.length)
    (hv : vs[(D + i) % P]? = some v) (hl : (giveN P D (someN lk) i hs (l.drop at_))[(D + i) % P]? = some y) (ho : Own w5 w1 v' (y ++ (l.drop x).take m)) (hg : wr.grownBy w1 v.ownBlock) (ha : v'.ownBlock = v.ownBlock ∨ v'.ownBlock = some wr.heap.size)
    (hg1 : Grow w5 w1) : RIn w5 (w1.setCell ⟨G, (D + i) % P, none⟩ v') G P D X z l lk at_ (i + 1) (x + m) := by
  refine ⟨by rw [hm, Nat.add_mul, Nat.one_mul]; omega, hs, vs.set ((D + i) % P) v', f, ?_, hg1.set (p := ⟨G, (D + i) % P, none⟩) h2.base _, h4, h5, h6, h7, h8, h9, h10⟩
  rw [giveN, List.getD_eq_getElem?_getD, hl, Option.getD_some, hm]
  rw [hx, ← List.drop_drop] at ho
  rw [← hm] at ho ⊢
  exact h2.append hv hl ho hg ha

/-- Whether a list has each tile of a set once. -/
def wholeB (s : TSet) (l : List Int) : Bool := decide ((l.length : Int) = sizeI s) && decide (dupE (sizeI s) [] l = 0)
set_option maxHeartbeats 4000000 in
theorem Whole_any (v v2 : Value) (s : TSet) (l : List Int) (w : World) (h : IsSet w v s) (h2 : IsInts w v2 l) (hz : RangeZ l) (e : chkErr s = 0) : Calls Try.prog 83 #[v, v2] w (Gives w (.bool (wholeB s l))) := by
  have hfin : ∀ b wf, wholeB s l = b → Grow w wf → Gives w (.bool (wholeB s l)) (.returned (.bool b)) wf := fun b wf h hg => ⟨by rw [h], hg⟩
  have HF := hid hfin
  have SZ := hid (fun W (hg : Grow w W) => rSize_any v s W (h.grow hg))
  have CT := hid (fun W (hg : Grow w W) => checkTiles_any v v2 s l W (h.grow hg) (h2.grow hg) hz e)
  obtain ⟨A2, e2, rfl, q1, q2, _⟩ := h2
  unfold maxLen at q2
  clear hfin hz e
  have HI := hid h
  obtain ⟨A, c, B, d, rfl, h1, h2⟩ := h.open_
  obtain ⟨_, _, e1, c1, m1, r1⟩ := h1
  obtain ⟨_, _, e2, d1, m2, r2⟩ := h2
  injection e1 with e1 _ e1'
  injection e2 with e2 _ e2'
  subst e1 e1' e2 e2'
  unfold maxLen at m1 m2
  have HG0 := hid (show Grow w (w.alloc (.cells #[.int .i64 s.pl, .slice A s.su.length c, .int .i64 s.wi, .int .i64 s.dr, .int .i64 s.fl, .int .i64 s.co, .int .i64 s.me, .int .i64 s.de, .slice B s.re.length d] 24)) from (Grow.refl w).alloc _)
  have HB0 := hid (show Blk (w.alloc (.cells #[.int .i64 s.pl, .slice A s.su.length c, .int .i64 s.wi, .int .i64 s.dr, .int .i64 s.fl, .int .i64 s.co, .int .i64 s.me, .int .i64 s.de, .slice B s.re.length d] 24)) w.heap.size 24 (setVals s (.slice A s.su.length c) (.slice B s.re.length d)) from heap_alloc_new w _)
  clear h
  by_cases hl : (l.length : Int) = sizeI s
  · have n1 : ((l.length : Int) == sizeI s) = true := by simp [hl]
    have HW := hid (show ∀ b, (dupE (sizeI s) [] l == 0) = b → wholeB s l = b from fun b hb => by unfold wholeB; rw [decide_eq_true hl, Bool.true_and, ← hb]; rfl)
    clear hl
    generalize dupE (sizeI s) [] l = de at *
    generalize sizeI s = n at *
    go_enter Try.func83, Try.ntmps83
    have KS := hid (fun W (hg : Grow (w.alloc (.cells #[.int .i64 s.pl, .slice A s.su.length c, .int .i64 s.wi, .int .i64 s.dr, .int .i64 s.fl, .int .i64 s.co, .int .i64 s.me, .int .i64 s.de, .slice B s.re.length d] 24)) W) => And.intro hg (set_cells (HB0.out.grow hg)))
    obtain ⟨-, c0, c1, c2, c3, c4, c5, c6, c7, c8⟩ := KS.out _ (Grow.refl _)
    go_wp2_with (first
      | (go_at_call 42; refine (SZ.out _ HG0.out).mono ?_; rintro e w1 ⟨rfl, hg1⟩; clear c0 c1 c2 c3 c4 c5 c6 c7 c8; obtain ⟨-, c0, c1, c2, c3, c4, c5, c6, c7, c8⟩ := KS.out _ hg1)
      | (go_at_call 99; refine (CT.out _ (HG0.out.trans hg1)).mono ?_; rintro e w2 ⟨rfl, hg2⟩))
    all_goals
      go_ret
      exact HF.out _ _ (HW.out _ rfl) (HG0.out.trans (hg1.trans hg2))
  · have n1 : ((l.length : Int) == sizeI s) = false := by simp [hl]
    have HW := hid (show wholeB s l = false by unfold wholeB; rw [decide_eq_false hl, Bool.false_and])
    clear hl
    generalize sizeI s = n at *
    go_enter Try.func83, Try.ntmps83
    have KS := hid (fun W (hg : Grow (w.alloc (.cells #[.int .i64 s.pl, .slice A s.su.length c, .int .i64 s.wi, .int .i64 s.dr, .int .i64 s.fl, .int .i64 s.co, .int .i64 s.me, .int .i64 s.de, .slice B s.re.length d] 24)) W) => And.intro hg (set_cells (HB0.out.grow hg)))
    obtain ⟨-, c0, c1, c2, c3, c4, c5, c6, c7, c8⟩ := KS.out _ (Grow.refl _)
    go_wp2_with (go_at_call 42; refine (SZ.out _ HG0.out).mono ?_; rintro e w1 ⟨rfl, hg1⟩)
    go_ret
    exact HF.out _ _ HW.out (HG0.out.trans hg1)
end Go.Proofs.Ytjiahcfegfimmaa
