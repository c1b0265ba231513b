/-
  Parts of the proof: DealS, DealL.
-/
import Derived.Test.YtjiahcfegfimmaaKnown12
import Derived.Deep.RegionLaw
/-
  Deals: what is dealt. Plain laws.
-/
namespace Go.Proofs.Ytjiahcfegfimmaa

/-- m tiles to each of the first seats, from the dealer on. -/
def giveN (P d m : Nat) : Nat → List (List Int) → List Int → List (List Int)
  | 0, hs, _ => hs
  | i + 1, hs, r => (giveN P d m i hs r).set ((d + i) % P) ((giveN P d m i hs r).getD ((d + i) % P) [] ++ (r.drop (i * m)).take m)
theorem giveN_length (P d m i : Nat) (hs : List (List Int)) (r : List Int) : (giveN P d m i hs r).length = hs.length := by
  induction i with
  | zero => rfl
  | succ i ih => rw [giveN, List.length_set, ih]
theorem giveN_bound {P d m B : Nat} {hs : List (List Int)} {r : List Int} (hm : m ≤ 4) (h : ∀ l ∈ hs, l.length ≤ B) : ∀ i : Nat, ∀ l ∈ giveN P d m i hs r, l.length ≤ B + 4 * i := by
  intro i
  induction i with
  | zero => exact fun l hl => by have := h l hl; omega
  | succ i ih =>
    intro l hl
    rw [giveN] at hl
    have hcat : ((giveN P d m i hs r).getD ((d + i) % P) []).length ≤ B + 4 * i := by
      by_cases hx : (d + i) % P < (giveN P d m i hs r).length
      · rw [List.getD_eq_getElem?_getD, List.getElem?_eq_getElem hx]; exact ih _ (List.getElem_mem hx)
      · rw [List.getD_eq_getElem?_getD, List.getElem?_eq_none (by omega)]; simp
    rcases List.mem_or_eq_of_mem_set hl with h1 | rfl
    · have := ih l h1; omega
    · rw [List.length_append, List.length_take]; omega
def someN (lack : Nat) : Nat := if 4 ≤ lack then 4 else 1
def dealF (P d : Nat) : Nat → Nat → List (List Int) → List Int → List (List Int) × List Int
  | 0, _, hs, r => (hs, r)
  | f + 1, lack, hs, r => if lack = 0 then (hs, r) else dealF P d f (lack - someN lack) (giveN P d (someN lack) P hs r) (r.drop (P * someN lack))
theorem dealF_zero (P d f : Nat) (hs : List (List Int)) (r : List Int) : dealF P d f 0 hs r = (hs, r) := by
  cases f <;> rfl
theorem dealF_succ {P d f lack : Nat} {hs : List (List Int)} {r : List Int} (h : 0 < lack) : dealF P d (f + 1) lack hs r = dealF P d f (lack - someN lack) (giveN P d (someN lack) P hs r) (r.drop (P * someN lack)) := by
  rw [dealF, if_neg (by omega)]
theorem someN_is (lack : Nat) : (4 ≤ lack ∧ someN lack = 4) ∨ (lack < 4 ∧ someN lack = 1) := by
  unfold someN
  split <;> omega
/-- Tiles enough for what is lacking, and X more. -/
def Enough (X P lack : Nat) (r : List Int) : Prop := P * lack + X ≤ r.length
theorem Enough.step {X P lack i : Nat} {r : List Int} (h : Enough X P lack r) (hP : P = 3 ∨ P = 4) (hl : 0 < lack) (hi : i < P) : i * someN lack + someN lack ≤ r.length := by
  unfold Enough at h
  rcases someN_is lack with ⟨h1, h2⟩ | ⟨h1, h2⟩ <;> rw [h2] <;> rcases hP with rfl | rfl <;> omega
theorem Enough.next {X P lack : Nat} {r : List Int} (h : Enough X P lack r) (hP : P = 3 ∨ P = 4) (hl : 0 < lack) : Enough X P (lack - someN lack) (r.drop (P * someN lack)) := by
  unfold Enough at *
  rw [List.length_drop]
  rcases someN_is lack with ⟨h1, h2⟩ | ⟨h1, h2⟩ <;> rw [h2] <;> rcases hP with rfl | rfl <;> omega
def dealErr (s : TSet) (wall : List Int) (cut d : Int) : Int :=
  if chkErr s ≠ 0 then chkErr s
  else if (wall.length : Int) ≠ sizeI s ∨ onceErr s wall ≠ 0 then 3
  else if cut < 0 ∨ sizeI s ≤ cut ∨ d < 0 ∨ s.pl ≤ d then 2
  else 0
/-- Hands and what is left. -/
def dealtI (s : TSet) (wall : List Int) (cut d : Int) : List (List Int) × List Int :=
  dealF s.pl.toNat d.toNat 13 (3 * s.me + 1).toNat (List.replicate s.pl.toNat []) (wall.drop cut.toNat ++ wall.take cut.toNat)
def liveI (s : TSet) (wall : List Int) (cut d : Int) : List Int := (dealtI s wall cut d).2.take ((dealtI s wall cut d).2.length - s.de.toNat)
def deadI (s : TSet) (wall : List Int) (cut d : Int) : List Int := (dealtI s wall cut d).2.drop ((dealtI s wall cut d).2.length - s.de.toNat)
end Go.Proofs.Ytjiahcfegfimmaa

/-
  Deals: what the loops keep. Plain laws.
-/
namespace Go.Proofs.Ytjiahcfegfimmaa
open Go.RowKit

theorem behind_any (t : TypeId) (ht : Try.prog.underlying t = some (.slice 3)) {w5 : World} {ad : Addr} {n c k : Nat} {zs : List Int} {kz : Int} (h : IsInts w5 (.slice (some ad) n c) zs) (hk : k ≤ n) (hz : kz = (k : Int)) :
    ∃ B : Option Addr, (∀ W, (Instr.sliceAt t (.slice (some ad) n c) (some (.int .i64 kz)) none none).run Try.prog W = .ok (.slice B (n - k) (c - k)) W) ∧ IsInts w5 (.slice B (n - k) (c - k)) (zs.drop k) := by
  subst hz
  refine ⟨_, fun W => ?_, ints_drop h hk⟩
  have ht' : Try.prog.underlying t = some (.slice (Try.prog.elem t)) := by rw [elem_ints ht]; exact ht
  rw [run_sliceAt_slice W t _ _ _ _ ht', run_slice_l W t _ _ _ ht' .i64 _ (by omega) (by omega), elem_ints ht, size_int]
  simp [Result.andThen, sliced]
theorem first_any (t : TypeId) (ht : Try.prog.underlying t = some (.slice 3)) {w5 : World} {ad : Addr} {n c k : Nat} {zs : List Int} {kz : Int} (h : IsInts w5 (.slice (some ad) n c) zs) (hk : k ≤ n) (hz : kz = (k : Int)) :
    (∀ W, (Instr.sliceAt t (.slice (some ad) n c) none (some (.int .i64 kz)) none).run Try.prog W = .ok (.slice (some ad) k c) W) ∧ IsInts w5 (.slice (some ad) k c) (zs.take k) := by
  subst hz
  obtain ⟨A', c', e, h1, h2, h3⟩ := id h
  injection e with e1 e2 e3
  subst e1 e2 e3
  exact ⟨run_first t ht ad _ c k (by omega), ints_take h (by omega)⟩

theorem first_opt (t : TypeId) (ht : Try.prog.underlying t = some (.slice 3)) {w5 : World} {A : Option Addr} {n c k : Nat} {zs : List Int} {kz : Int} (h : IsInts w5 (.slice A n c) zs) (hk : k ≤ n) (hz : kz = (k : Int)) :
    (∀ W, (Instr.sliceAt t (.slice A n c) none (some (.int .i64 kz)) none).run Try.prog W = .ok (.slice A k c) W) ∧ IsInts w5 (.slice A k c) (zs.take k) := by
  subst hz
  have hc : n ≤ c := by
    obtain ⟨A', c', e, h1, h2, h3⟩ := h
    injection e with e1 e2 e3
    subst e1 e2 e3
    exact h1
  refine ⟨fun W => ?_, ints_first h hk⟩
  have ht' : Try.prog.underlying t = some (.slice (Try.prog.elem t)) := by rw [elem_ints ht]; exact ht
  rw [run_sliceAt_slice W t _ _ _ _ ht', run_slice_h W t _ _ _ ht' .i64 _ (by omega) (by omega), elem_ints ht, size_int]
  cases A <;> simp [Result.andThen, sliced, Addr.add]
theorem behind_opt (t : TypeId) (ht : Try.prog.underlying t = some (.slice 3)) {w5 : World} {A : Option Addr} {n c k : Nat} {zs : List Int} {kz : Int} (h : IsInts w5 (.slice A n c) zs) (hk : k ≤ n) (hz : kz = (k : Int)) :
    ∃ B : Option Addr, (∀ W, (Instr.sliceAt t (.slice A n c) (some (.int .i64 kz)) none none).run Try.prog W = .ok (.slice B (n - k) (c - k)) W) ∧ IsInts w5 (.slice B (n - k) (c - k)) (zs.drop k) := by
  subst hz
  refine ⟨_, fun W => ?_, ints_drop h hk⟩
  have ht' : Try.prog.underlying t = some (.slice (Try.prog.elem t)) := by rw [elem_ints ht]; exact ht
  rw [run_sliceAt_slice W t _ _ _ _ ht', run_slice_l W t _ _ _ ht' .i64 _ (by omega) (by omega), elem_ints ht, size_int]
  simp [Result.andThen, sliced]
/-- An append whose run is known, as a step of a region that draws. -/
theorem step_append_run {P : Program} {ops : Array Oper} {o : Oper} {a : Act} {w : World} {K : Act → World → Prop} {Q : Exit → Act → World → Prop} {E : Prop}
    (hg : o.guard = none) (s x : Operand) (t : TypeId) (hop : o.op = Op.call { callee := Callee.builtin Builtin.append, args := #[s, x], argTypes := #[t, t] })
    {u y v' : Value} {w' : World} (hs : a.eval s = u) (hx : a.eval x = y) (hrun : (Builtin.append_ #[t, t] o.type #[u, y]).run P w = .ok v' w')
    (hK : K (a.put o.dst v') w') : if Region.wanted o (yielded ops a.tmps) = true then Oper.wp P o a w K Q else E := by
  have hw : Region.wanted o (yielded ops a.tmps) = true := by simp [Region.wanted, hg]
  rw [if_pos hw]
  unfold Oper.wp
  simp [execOp, hop, resolve, invoke, builtin, hs, hx, hrun, Result.andThen]
  exact hK
/-- Ahead of a round of the seats. -/
def OutSt (w5 wr : World) (G P D X : Nat) (z : List (List Int) × List Int) (rest : Value) (lk : Nat) : Prop :=
  ∃ (r : List Int) (hs : List (List Int)) (vs : List Value) (f : Nat), IsInts w5 rest r ∧ Hands w5 wr G vs hs ∧ Grow w5 wr ∧ Enough X P lk r ∧ lk ≤ f ∧ r.length ≤ 144 ∧ (∀ l ∈ hs, l.length ≤ 208 - 16 * lk) ∧ hs.length = P ∧ dealF P D f lk hs r = z
/-- Within it: i seats have got theirs. -/
def InSt (w5 wr : World) (G P D X : Nat) (z : List (List Int) × List Int) (rest : Value) (lk i : Nat) : Prop :=
  ∃ (r : List Int) (hs : List (List Int)) (vs : List Value) (f : Nat), IsInts w5 rest (r.drop (i * someN lk)) ∧ Hands w5 wr G vs (giveN P D (someN lk) i hs r) ∧ Grow w5 wr ∧ Enough X P lk r ∧ lk ≤ f ∧ r.length ≤ 144 ∧ (∀ l ∈ hs, l.length ≤ 208 - 16 * lk) ∧ hs.length = P ∧ dealF P D f lk hs r = z
theorem OutSt.into {w5 wr : World} {G P D X : Nat} {z : List (List Int) × List Int} {rest : Value} {lk : Nat} (h : OutSt w5 wr G P D X z rest lk) : InSt w5 wr G P D X z rest lk 0 := by
  obtain ⟨r, hs, vs, f, h1, h2, h3, h4, h5, h6, h7, h8, h9⟩ := h
  exact ⟨r, hs, vs, f, by simpa using h1, h2, h3, h4, h5, h6, h7, h8, h9⟩
theorem OutSt.grows {w5 wr : World} {G P D X : Nat} {z : List (List Int) × List Int} {rest : Value} {lk : Nat} (h : OutSt w5 wr G P D X z rest lk) : Grow w5 wr := by
  obtain ⟨_, _, _, _, _, _, h, _⟩ := h
  exact h
theorem InSt.grows {w5 wr : World} {G P D X : Nat} {z : List (List Int) × List Int} {rest : Value} {lk i : Nat} (h : InSt w5 wr G P D X z rest lk i) : Grow w5 wr := by
  obtain ⟨_, _, _, _, _, _, h, _⟩ := h
  exact h
theorem InSt.out {w5 wr : World} {G P D X : Nat} {z : List (List Int) × List Int} {rest : Value} {lk : Nat} (hP : P = 3 ∨ P = 4) (hl : 0 < lk) (hl2 : lk ≤ 13) (h : InSt w5 wr G P D X z rest lk P) : OutSt w5 wr G P D X z rest (lk - someN lk) := by
  obtain ⟨r, hs, vs, f, h1, h2, h3, h4, h5, h6, h7, h8, h9⟩ := h
  have hm : someN lk ≤ 4 ∧ 1 ≤ someN lk := by rcases someN_is lk with h | h <;> omega
  cases f with
  | zero => omega
  | succ f =>
    rw [dealF_succ hl] at h9
    refine ⟨r.drop (P * someN lk), _, vs, f, h1, h2, h3, h4.next hP hl, by omega, by rw [List.length_drop]; omega, fun l hl' => ?_, by rw [giveN_length]; exact h8, h9⟩
    have hb := giveN_bound hm.1 h7 P l hl'
    rcases hP with rfl | rfl <;> rcases someN_is lk with ⟨a, b⟩ | ⟨a, b⟩ <;> rw [b] <;> omega
/-- One seat more has got its tiles. -/
theorem InSt.step {w5 wr w1 : World} {G P D X : Nat} {z : List (List Int) × List Int} {rest' v v' : Value} {lk i m : Nat} {r : List Int} {hs : List (List Int)} {vs : List Value} {f : Nat} {l : List Int} (hm : someN lk = m)
    (h2 : Hands w5 wr G vs (giveN P D (someN lk) i hs r)) (h4 : Enough X P lk r) (h5 : lk ≤ f) (h6 : r.length ≤ 144) (h7 : ∀ l ∈ hs, l.length ≤ 208 - 16 * lk) (h8 : hs.length = P) (h9 : dealF P D f lk hs r = z)
    (hv : vs[(D + i) % P]? = some v) (hl : (giveN P D (someN lk) i hs r)[(D + i) % P]? = some l) (ho : Own w5 w1 v' (l ++ (r.drop (i * m)).take m)) (hg : wr.grownBy w1 v.ownBlock) (ha : v'.ownBlock = v.ownBlock ∨ v'.ownBlock = some wr.heap.size)
    (hg1 : Grow w5 w1) (h1 : IsInts w5 rest' ((r.drop (i * m)).drop m)) : InSt w5 (w1.setCell ⟨G, (D + i) % P, none⟩ v') G P D X z rest' lk (i + 1) := by
  refine ⟨r, hs, vs.set ((D + i) % P) v', f, ?_, ?_, hg1.set (p := ⟨G, (D + i) % P, none⟩) h2.base _, h4, h5, h6, h7, h8, h9⟩
  · rw [hm, Nat.add_mul, Nat.one_mul, ← List.drop_drop]; exact h1
  · rw [giveN, List.getD_eq_getElem?_getD, hl, Option.getD_some, hm]
    rw [← hm] at ho ⊢
    exact h2.append hv hl ho hg ha
theorem Hands.got {w0 w : World} {G : Nat} {vs : List Value} {hs : List (List Int)} (h : Hands w0 w G vs hs) {i : Nat} (hi : i < hs.length) : ∃ v, vs[i]? = some v ∧ hs[i]? = some hs[i] ∧ w.cell? ⟨G, i, none⟩ = some v ∧ Own w0 w v hs[i] := by
  have hv : i < vs.length := by have := h.len; omega
  exact ⟨vs[i], List.getElem?_eq_getElem hv, List.getElem?_eq_getElem hi, by rw [h.blk.cell, List.getElem?_eq_getElem hv], h.own i _ _ (List.getElem?_eq_getElem hv) (List.getElem?_eq_getElem hi)⟩
theorem Hands.kept {w0 w w1 : World} {G : Nat} {vs : List Value} {hs : List (List Int)} (h : Hands w0 w G vs hs) {i : Nat} {v : Value} (hv : vs[i]? = some v) (hg : w.grownBy w1 v.ownBlock) : Blk w1 G 22 vs :=
  (hg.block G h.blk.lt (fun e => h.ne hv e.symm)).trans h.blk
end Go.Proofs.Ytjiahcfegfimmaa
