/-
  A range over a function whose iterator keeps a cell of its own: what the iterator promises, and the caller's law. Plain laws of the walk, at the wide fence.
-/
import Derived.RangeFuncNested
import Derived.RangeFuncBound
import Derived.RangeFuncCalls
import Derived.RangeFuncLeaves
import Derived.Test.YtjiahcfegfimmaaKnown01
namespace Go.Proofs.Ytjiahcfegfimmaa
open Go.RowKit

/-- New blocks; the block A; what is no cells, from B on: no more has turned. -/
structure Turns (B A : Nat) (W W' : World) : Prop where
  os : W'.os = W.os
  tape : W'.tape = W.tape
  output : W'.output = W.output
  size : W.heap.size ≤ W'.heap.size
  blk : ∀ k, k < W.heap.size → k ≠ A → (k < B ∨ ∃ cs t fr, W.heap[k]? = some (.cells cs t fr)) → W'.heap[k]? = W.heap[k]?
section
variable {B A : Nat} {W W' : World}
theorem Turns.of_grow (h : Grow W W') : Turns B A W W' := ⟨h.os, h.tape, h.output, h.size, fun _ hk _ _ => h.blk hk⟩
theorem Turns.setA (W : World) (i : Nat) (u : Value) : Turns B A W (W.setCell ⟨A, i, none⟩ u) :=
  ⟨rfl, rfl, rfl, by simp, fun k _ hne _ => Below.heap_setCell _ _ _ _ hne⟩
theorem Turns.putObj {l : Nat} {o : Obj} (o' : Obj) (h : W.heap[l]? = some o) (ho : o.isCells = false) (hl : B ≤ l) : Turns B A W (W.putObj l o') :=
  ⟨rfl, rfl, rfl, by simp, fun k _ _ hk => World.putObj_heap_other (by
    rintro rfl
    rcases hk with hk | ⟨cs, t, fr, hk⟩
    · omega
    · rw [h] at hk
      cases hk
      cases ho)⟩
theorem Turns.cells {k : Nat} {cs : Array Value} {t : TypeId} {fr : Nat × Nat} (h : Turns B A W W') (hk : W.heap[k]? = some (.cells cs t fr)) (hne : k ≠ A) : W'.heap[k]? = some (.cells cs t fr) :=
  (h.blk k (lt_of_block hk) hne (.inr ⟨cs, t, fr, hk⟩)).trans hk
theorem Turns.old {k : Nat} {o : Obj} (h : Turns B A W W') (hk : W.heap[k]? = some o) (hne : k ≠ A) (hB : k < B) : W'.heap[k]? = some o :=
  (h.blk k (lt_of_block hk) hne (.inl hB)).trans hk
/-- What lay before the call lies as it lay. -/
theorem Turns.grow {w : World} (h : Turns B A W W') (hg : Grow w W) (hA : w.heap.size ≤ A) (hB : w.heap.size ≤ B) : Grow w W' :=
  ⟨h.os.trans hg.os, h.tape.trans hg.tape, h.output.trans hg.output, Nat.le_trans hg.size h.size, fun k hk => (h.blk k (Nat.lt_of_lt_of_le hk hg.size) (by omega) (.inl (by omega))).trans (hg.block k hk)⟩
end

/-- The iterator goes through S, handing each element to the loop; it may keep cells in a block A of its own. -/
def Iterates {α : Type} (P : Program) (g : Nat) (lb : Array Value) (encs : α → Array Value) (S : List α) (Ok : World → Prop) : Prop :=
  ∀ (m l : Nat) (J Jx : Nat → List α → World → Prop) (W : World), Ok W →
    (∀ A s W1 W2, J A s W1 → Turns W.heap.size A W1 W2 → J A s W2) → (∀ A s W1 W2, Jx A s W1 → Turns W.heap.size A W1 W2 → Jx A s W2) →
    (∀ A s W1, J A s W1 → Ok W1) →
    (∀ A pre x W1, W.heap.size ≤ A → A < W1.heap.size → J A pre W1 → pre ++ [x] <+: S → ∀ m, YieldAt Fence.wide m P l (encs x) W1 fun e W' =>
      (e = .returned (.bool true) ∧ J A (pre ++ [x]) W' ∧ W1.heap.size ≤ W'.heap.size ∧ ∀ k, W.heap.size ≤ k → k ≤ A → W'.heap[k]? = W1.heap[k]?) ∨ (e = .returned (.bool false) ∧ Jx A (pre ++ [x]) W')) →
    (∀ A W1, Grow W W1 → W.heap.size ≤ A → A < W1.heap.size → J A [] W1) →
    CallsIn Fence.wide m P g (#[.func (.yield l) #[] #[]] ++ lb) W fun e W' => (∃ v, e = .returned v) ∧ ∃ A, W.heap.size ≤ A ∧ (J A S W' ∨ ∃ pre, pre <+: S ∧ Jx A pre W')

/-- How a round may be left: on to the next one, or by a return. -/
def roundEnd {α : Type} (B A : Nat) (I Ix : Nat → List α → World → Prop) (xs : List α) (W : World) : Exit → Act → World → Prop
  | .normal, _, W' => KeepsOthers W W' ∧ (∀ k, B ≤ k → k ≤ A → W'.heap[k]? = W.heap[k]?) ∧ I A xs W'
  | .ret, _, W' => KeepsOthers W W' ∧ Ix A xs W'
  | _, _, _ => False

/-- The caller's law. -/
theorem range_law {α : Type} {P : Program} {g : Operand} {ps : Array Tmp} {assign body : Code} {Q : Exit → Act → World → Prop} {a : Act} {w : World} {n gf : Nat} {lb : Array Value}
    (hg : a.eval g = .func (.func gf) #[] lb) (eg : ∀ args w, (callFunc gf args).run P w = .ok (.enter gf args) w)
    {encs : α → Array Value} {S : List α} {Ok : World → Prop} (hit : Iterates P gf lb encs S Ok) (hps : ∀ x, (encs x).size = ps.size) (hok0 : ∀ W, Grow w W → Ok W)
    (I Ix : Nat → List α → World → Prop) (hI : ∀ A s W W', I A s W → Turns w.heap.size A W W' → I A s W') (hIx : ∀ A s W W', Ix A s W → Turns w.heap.size A W W' → Ix A s W') (hok : ∀ A s W, I A s W → Ok W)
    (h0 : ∀ A W, Grow w W → w.heap.size + 2 ≤ A → A < W.heap.size → I A [] W)
    (Ax : Nat → List α → α → Act → World → Prop) (hAx : ∀ A s x a' W W', Ax A s x a' W → Turns w.heap.size A W W' → Ax A s x a' W')
    (hassign : ∀ (l m A : Nat) (pre : List α) (x : α) (W : World) (K : Act → World → Prop), w.heap.size + 2 ≤ A → A < W.heap.size → I A pre W → pre ++ [x] <+: S →
      (∀ a' W', KeepsOthers W W' → (∀ k, w.heap.size + 2 ≤ k → k ≤ A → W'.heap[k]? = W.heap[k]?) → Ax A pre x a' W' → K a' W') →
      assign.wpIn (Fence.wide.inRound l) m P (Exit.then K (fun _ _ _ => False)) { tmps := (ps.zip (encs x)).foldl (fun t (p, v) => t.setIfInBounds p v) a.tmps, defers := [] } W)
    (hbody : ∀ (l m A : Nat) (pre : List α) (x : α) (a' : Act) (W : World), w.heap.size + 2 ≤ A → A < W.heap.size → Ax A pre x a' W → pre ++ [x] <+: S →
      body.wpIn (Fence.wide.inRound l) m P (roundEnd (w.heap.size + 2) A I Ix (pre ++ [x]) W) a' W)
    (hdone : ∀ (D A : Nat) (W : World), w.heap.size ≤ D → w.heap.size + 2 ≤ A → I A S W → W.heap[D]? = some (.deferred (some [])) → Q .normal { a with defers := { target := .collected D, args := #[] } :: a.defers } W)
    (hstop : ∀ (D A : Nat) (pre : List α) (W : World), w.heap.size ≤ D → w.heap.size + 2 ≤ A → pre <+: S → Ix A pre W → W.heap[D]? = some (.deferred (some [])) → Code.ret.wpIn Fence.wide n P Q { a with defers := { target := .collected D, args := #[] } :: a.defers } W) :
    (Code.rangeFunc g ps assign body).wpIn Fence.wide n P Q a w := by
  refine wpIn_rangeFunc fun fn hfn => ?_
  let rec_ : LoopState → Option Code → Loop := fun st pe => { state := st, pending := pe, fn, tmps := a.tmps, params := ps, assign, body, defers := w.heap.size }
  let V : World := (w.alloc (.deferred (some []))).alloc (.loop (rec_ .ready none))
  have hsz : V.heap.size = w.heap.size + 2 := by simp [V]
  have gV : Grow w V := ((Grow.refl w).alloc _).alloc _
  have hL : V.heap[w.heap.size + 1]? = some (.loop (rec_ .ready none)) := by
    have h := World.alloc_heap_new (w.alloc (.deferred (some []))) (.loop (rec_ .ready none))
    rwa [World.size_alloc] at h
  have hD : V.heap[w.heap.size]? = some (.deferred (some [])) := (Below.heap_alloc _ _ _ (by simp)).trans (World.alloc_heap_new w _)
  refine ⟨w.heap.size + 1, [{ target := .collected w.heap.size, args := #[] }], V, { target := .fn (.func gf) lb, args := #[.func (.yield (w.heap.size + 1)) #[] #[]] }, V, gf,
    #[.func (.yield (w.heap.size + 1)) #[] #[]] ++ lb, V, run_enterLoop_outer _ _ _ _ _, ?_, fun _ _ => trivial, ?_, fun h => by simp [Fence.wide] at h, ?_⟩
  · simp only [resolve, hg]
    simp [go_sem]
  · simp [invoke, go_sem, eg]
  · let Recs : Loop → World → Prop := fun r W => W.heap[w.heap.size + 1]? = some (.loop r) ∧ W.heap[w.heap.size]? = some (.deferred (some []))
    have hrecs : ∀ {A : Nat} {r : Loop} {W W' : World}, w.heap.size + 2 ≤ A → Recs r W → Turns (w.heap.size + 2) A W W' → Recs r W' := fun hA h t => ⟨t.old h.1 (by omega) (by omega), t.old h.2 (by omega) (by omega)⟩
    have weak : ∀ {A : Nat} {W W' : World}, Turns (w.heap.size + 2) A W W' → Turns w.heap.size A W W' := fun t => ⟨t.os, t.tape, t.output, t.size, fun k hk hne h => t.blk k hk hne (h.imp (fun h => by omega) id)⟩
    refine (hit (n - 1) (w.heap.size + 1) (fun A s W => w.heap.size + 2 ≤ A ∧ I A s W ∧ Recs (rec_ .ready none) W) (fun A s W => w.heap.size + 2 ≤ A ∧ Ix A s W ∧ Recs (rec_ .done (some .ret)) W) V (hok0 _ gV)
      (fun A s W W' h t => by rw [hsz] at t; exact ⟨h.1, hI _ _ _ _ h.2.1 (weak t), hrecs h.1 h.2.2 t⟩) (fun A s W W' h t => by rw [hsz] at t; exact ⟨h.1, hIx _ _ _ _ h.2.1 (weak t), hrecs h.1 h.2.2 t⟩)
      (fun A s W h => hok _ _ _ h.2.1) ?_ (fun A W1 hg1 hA hA' => ?_)).mono ?_
    · rintro A pre x W _ hAW ⟨hA, hi, hl, hd⟩ hpre m
      have hlt : w.heap.size + 1 < W.heap.size := (Array.getElem?_eq_some_iff.1 hl).1
      refine ⟨fn, _, assign, body, run_yield (P := P) (args := encs x) hl (hps x), roundIn_of_wpIn hfn (hassign _ _ A pre x W _ hA hAW hi hpre fun a' W2 hk2 hp2 hax => ?_)⟩
      have hl2 := hk2.same _ _ hl rfl
      have hd2 := hk2.same _ _ hd rfl
      refine ⟨_, run_beginRound hl2 rfl, ?_⟩
      have t3 : Turns w.heap.size A W2 (W2.putObj (w.heap.size + 1) (.loop { rec_ .ready none with state := .busy })) := Turns.putObj _ hl2 rfl (by omega)
      have hl3 : (W2.putObj (w.heap.size + 1) (.loop { rec_ .ready none with state := .busy })).heap[w.heap.size + 1]? = some (.loop { rec_ .ready none with state := .busy }) := World.putObj_heap_same (Array.getElem?_eq_some_iff.1 hl2).1
      have hd3 : (W2.putObj (w.heap.size + 1) (.loop { rec_ .ready none with state := .busy })).heap[w.heap.size]? = some (.deferred (some [])) := (World.putObj_heap_other (by omega)).trans hd2
      have hp3 : ∀ k, w.heap.size + 2 ≤ k → k ≤ A → (W2.putObj (w.heap.size + 1) (.loop { rec_ .ready none with state := .busy })).heap[k]? = W.heap[k]? := fun k h1 h2 => (World.putObj_heap_other (by omega)).trans (hp2 k h1 h2)
      have hs3 : A < (W2.putObj (w.heap.size + 1) (.loop { rec_ .ready none with state := .busy })).heap.size := by have := hk2.size; simp; omega
      refine wpIn_mono (hbody _ _ A pre x a' _ hA hs3 (hAx _ _ _ _ _ _ hax t3) hpre) ?_
      have hgs := hk2.size
      generalize hW3 : W2.putObj (w.heap.size + 1) (.loop { rec_ .ready none with state := .busy }) = W3 at *
      have hs32 : W3.heap.size = W2.heap.size := by rw [← hW3]; simp
      rintro e a4 W4 hp
      cases e with
      | normal =>
        obtain ⟨hk4, hp4, hi4⟩ := hp
        have hl4 := hk4.same _ _ hl3 rfl
        have hd4 := hk4.same _ _ hd3 rfl
        have h4s := hk4.size
        refine ⟨_, _, run_endRound (P := P) none hl4, .inl ⟨rfl, ⟨hA, hI _ _ _ _ hi4 (Turns.putObj _ hl4 rfl (by omega)), World.putObj_heap_same (Array.getElem?_eq_some_iff.1 hl4).1, (World.putObj_heap_other (by omega)).trans hd4⟩, by simp; omega, fun k h1 h2 => ?_⟩⟩
        rw [hsz] at h1
        exact ((World.putObj_heap_other (by omega)).trans (hp4 k h1 h2)).trans (hp3 k h1 h2)
      | ret =>
        obtain ⟨hk4, hi4⟩ := hp
        have hl4 := hk4.same _ _ hl3 rfl
        have hd4 := hk4.same _ _ hd3 rfl
        exact ⟨_, _, run_endRound (P := P) (some .ret) hl4, .inr ⟨rfl, hA, hIx _ _ _ _ hi4 (Turns.putObj _ hl4 rfl (by omega)), World.putObj_heap_same (Array.getElem?_eq_some_iff.1 hl4).1, (World.putObj_heap_other (by omega)).trans hd4⟩⟩
      | exit id => exact hp.elim
      | goto t => exact hp.elim
      | panic ch => exact hp.elim
      | outgrown => exact hp.elim
    · rw [hsz] at hA
      exact ⟨hA, h0 A W1 (gV.trans hg1) hA hA', hg1.blk_some hL, hg1.blk_some hD⟩
    · rintro e W2 ⟨⟨v, rfl⟩, A, _, (⟨hA, hi, hl, hd⟩ | ⟨pre, hpre, hA, hi, hl, hd⟩)⟩
      · exact ⟨none, _, run_endLoop (P := P) hl (by simp [rec_]), hdone _ A _ (Nat.le_refl _) hA (hI _ _ _ _ hi (Turns.putObj _ hl rfl (by omega))) ((World.putObj_heap_other (by omega)).trans hd)⟩
      · exact ⟨some .ret, _, run_endLoop (P := P) hl (by simp [rec_]), hstop _ A pre _ (Nat.le_refl _) hA hpre (hIx _ _ _ _ hi (Turns.putObj _ hl rfl (by omega))) ((World.putObj_heap_other (by omega)).trans hd)⟩
end Go.Proofs.Ytjiahcfegfimmaa
