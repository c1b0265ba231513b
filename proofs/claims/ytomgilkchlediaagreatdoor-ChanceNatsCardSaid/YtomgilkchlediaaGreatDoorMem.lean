/-
  Words for memory: what a slice reads as, that a world has only grown, what the call owns. Plain lemmas, no program.
-/
import Derived.WalkKit
import Derived.WalkSpells
import Derived.WalkLawsBesides
import Derived.Maps.AppendAt
import Derived.Deep.AppendLies
import Derived.Deep.Draws
import Derived.Deep.DeepMust
import Derived.Deep.DeepFit
namespace Go.Proofs.YtomgilkchlediaaGreatDoor
open Go.RowKit

theorem hid {p : Prop} (h : p) : Hid p := h

abbrev ints (zs : List Int) : List Value := zs.map (Value.int .i64)

theorem block_add (a : Addr) (n : Nat) : (a.add n).block = a.block := by unfold Addr.add; split <;> rfl
theorem add_add (a : Addr) (i j : Nat) : (a.add i).add j = a.add (i + j) := by
  unfold Addr.add
  by_cases hi : i = 0 <;> by_cases hj : j = 0 <;> simp [hi, hj, Nat.add_assoc]

/-- Everything that was there is as it was. -/
def Grow (w w' : World) : Prop := Below w.heap.size w w'

section
variable {a w w' w'' : World}
theorem Grow.refl (w : World) : Grow w w := Below.refl _ _
theorem Grow.trans (h : Grow a w) (k : Grow w w') : Grow a w' := Below.trans h (Below.mono k (Below.size h))
theorem Grow.size (h : Grow a w) : a.heap.size ≤ w.heap.size := Below.size h
theorem Grow.alloc (h : Grow a w) (o : Obj) : Grow a (w.alloc o) := Below.alloc h h.size o
theorem Grow.drew (h : Grow a w) : Grow a w.drew := Below.drew h
theorem Grow.drewN (h : Grow a w) (n : Nat) : Grow a (w.drewN n) := ⟨h.os, h.tape, h.output, h.size, h.block⟩
theorem Grow.set (h : Grow a w) {p : Addr} (hp : a.heap.size ≤ p.block) (u : Value) : Grow a (w.setCell p u) := Below.setCell h hp u
theorem Grow.own (h : Grow a w) {row : Option Nat} (hg : w.grownBy w' row) (hr : ∀ k, row = some k → a.heap.size ≤ k) : Grow a w' := Below.grown h hg h.size hr
theorem Grow.cell (h : Grow a w) {p : Addr} (hp : p.block < a.heap.size) : w.cell? p = a.cell? p := Below.cell h hp
theorem Grow.cell_some (h : Grow a w) {p : Addr} {v : Value} (hp : a.cell? p = some v) : w.cell? p = some v := (h.cell (World.block_lt_of_cell? a p hp)).trans hp
theorem Grow.frozen (h : Grow a w) {p : Addr} (hp : p.block < a.heap.size) : w.frozen? p = a.frozen? p := Below.frozen h hp
theorem Grow.blk (h : Grow a w) {k : Nat} (hp : k < a.heap.size) : w.heap[k]? = a.heap[k]? := h.block k hp
theorem Grow.blk_some (h : Grow a w) {k : Nat} {o : Obj} (hp : a.heap[k]? = some o) : w.heap[k]? = some o := (h.block k (lt_of_block hp)).trans hp
end

/-- The cells from A on are xs. -/
def Rd (w : World) (A : Option Addr) (xs : List Value) : Prop :=
  ∀ (i : Nat) (u : Value), xs[i]? = some u → ∃ ad, A = some ad ∧ ad.block < w.heap.size ∧ w.cell? (ad.add i) = some u

section
variable {w w' : World} {A : Option Addr} {xs : List Value}
theorem Rd.nil : Rd w A [] := fun i u h => by simp at h
theorem Rd.grow (h : Rd w A xs) (g : Grow w w') : Rd w' A xs := fun i u hu => by
  obtain ⟨ad, e, hb, hc⟩ := h i u hu
  exact ⟨ad, e, Nat.lt_of_lt_of_le hb g.size, by rw [g.cell (by rw [block_add]; exact hb)]; exact hc⟩
theorem Rd.drewN (h : Rd w A xs) (n : Nat) : Rd (w.drewN n) A xs := h
theorem Rd.int {zs : List Int} (h : Rd w A (ints zs)) {k : Nat} (hk : k < zs.length) : ∃ ad, A = some ad ∧ ad.block < w.heap.size ∧ w.cell? (ad.add k) = some (.int .i64 zs[k]) :=
  h k _ (by simp [hk])
theorem Rd.take (h : Rd w A xs) (k : Nat) : Rd w A (xs.take k) := fun i u hu => h i u (by
  rw [List.getElem?_take] at hu
  split at hu
  · exact hu
  · cases hu)
theorem Rd.drop (h : Rd w A xs) (k : Nat) {c : Nat} (hc : xs.length ≤ c) : Rd w (if c = k then A else A.map (·.add k)) (xs.drop k) := fun i u hu => by
  rw [List.getElem?_drop] at hu
  have hl := (List.getElem?_eq_some_iff.1 hu).1
  obtain ⟨ad, e, hb, hx⟩ := h _ u hu
  rw [if_neg (by omega), e]
  exact ⟨_, rfl, by rw [block_add]; exact hb, by rw [add_add]; exact hx⟩
theorem Rd.of_own {base : Nat} {e : TypeId} {size n c : Nat} (h : w.ownsRow base e size (.slice A n c) n xs) : Rd w A xs := fun i u hu => by
  rcases h.2 with ⟨hv, hn⟩ | ⟨g, cap, cur, hv, _, hg, _⟩
  · have := h.1
    subst hn
    have : xs = [] := List.eq_nil_of_length_eq_zero (by simpa using this)
    subst this
    simp at hu
  · have hA : A = some ⟨g, 0, none⟩ := by injection hv
    subst hA
    exact ⟨_, rfl, lt_of_block hg, h.cells (g := g) rfl i u hu⟩
end

/-- It returns v; the world has drawn, no more. -/
def Says (w : World) (v : Value) (e : Ending) (w' : World) : Prop := e = .returned v ∧ ∃ n, w' = w.drewN n
/-- It returns v; the world is as it was. -/
def Same (w : World) (v : Value) (e : Ending) (w' : World) : Prop := e = .returned v ∧ w = w'
theorem Says.grow {w w' : World} {v : Value} {e : Ending} (h : Says w v e w') : Grow w w' := by
  obtain ⟨_, n, rfl⟩ := h
  exact (Grow.refl _).drewN n
section
variable {P : Program} {f : FuncId} {args : Array Value} {w : World} {a n : Nat} {v : Value}
theorem q_same (h : Calls P f args (w.drewN n) (Same (w.drewN n) v)) : Calls P f args (w.drewN n) fun e w'' => e = .returned v ∧ ∃ m, w'' = w.drewN m :=
  h.mono fun _ _ ⟨he, hm⟩ => ⟨he, n, hm.symm⟩
theorem q_same' (h : Calls P f args (w.drewN (a + n)) (Same (w.drewN (a + n)) v)) : Calls P f args (w.drewN (a + n)) fun e w'' => e = .returned v ∧ ∃ m, w'' = w.drewN (a + m) :=
  h.mono fun _ _ ⟨he, hm⟩ => ⟨he, n, hm.symm⟩
theorem q_says (h : Calls P f args (w.drewN n) (Says (w.drewN n) v)) : Calls P f args (w.drewN n) fun e w'' => e = .returned v ∧ ∃ m, w'' = w.drewN m :=
  h.mono fun _ _ ⟨he, m, hm⟩ => ⟨he, n + m, by rw [hm, World.drewN_drewN]⟩
theorem q_says' (h : Calls P f args (w.drewN (a + n)) (Says (w.drewN (a + n)) v)) : Calls P f args (w.drewN (a + n)) fun e w'' => e = .returned v ∧ ∃ m, w'' = w.drewN (a + m) :=
  h.mono fun _ _ ⟨he, m, hm⟩ => ⟨he, n + m, by rw [hm, World.drewN_drewN, Nat.add_assoc]⟩
end

/-- The value is a slice that reads as these numbers. -/
def IsInts (w : World) (v : Value) (zs : List Int) : Prop :=
  ∃ A c, v = .slice A zs.length c ∧ zs.length ≤ c ∧ c ≤ maxLen ∧ Rd w A (ints zs)

section
variable {w w' : World} {v : Value} {zs : List Int}
theorem IsInts.grow (h : IsInts w v zs) (g : Grow w w') : IsInts w' v zs := by
  obtain ⟨A, c, e, h1, h2, h3⟩ := h
  exact ⟨A, c, e, h1, h2, h3.grow g⟩
theorem IsInts.drewN (h : IsInts w v zs) (n : Nat) : IsInts (w.drewN n) v zs := h
theorem IsInts.nil : IsInts w (.slice none 0 0) [] := ⟨none, 0, rfl, Nat.le_refl _, Nat.zero_le _, Rd.nil⟩
theorem IsInts.of_own {base : Nat} (h : w.ownsRow base 3 1 v zs.length (ints zs)) : IsInts w v zs := by
  rcases h.2 with ⟨rfl, hn⟩ | ⟨g, cap, cur, rfl, _, _, hn, hm, _⟩
  · have hz : zs = [] := List.eq_nil_of_length_eq_zero hn
    subst hz
    exact IsInts.nil
  · exact ⟨_, _, rfl, hn, hm, Rd.of_own h⟩
theorem own_nil (w : World) (base : Nat) : w.ownsRow base 3 1 (.slice none 0 0) ([] : List Int).length (ints []) := World.ownsRow_nil _ _ _ _
end


/-- Where the slice leads to a block, its cells are of element type e. -/
def Tag (w : World) (e : TypeId) (v : Value) : Prop := ∀ ad n c, v = .slice (some ad) n c → ∃ cur, w.heap[ad.block]? = some (.cells cur e (0, 0))
theorem Tag.grow {w w' : World} {e : TypeId} {v : Value} (h : Tag w e v) (g : Grow w w') : Tag w' e v := fun ad n c hv => by
  obtain ⟨cur, hc⟩ := h ad n c hv
  exact ⟨cur, g.blk_some hc⟩
theorem Tag.nil {w : World} {e : TypeId} : Tag w e (.slice none 0 0) := fun ad n c hv => by injection hv with h; cases h
theorem Tag.of_own {w : World} {base size n : Nat} {e : TypeId} {v : Value} {xs : List Value} (h : w.ownsRow base e size v n xs) : Tag w e v := fun ad m c hv => by
  rcases h.2 with ⟨h', _⟩ | ⟨g, cap, cur, h', _, hg, _⟩
  · rw [h'] at hv; injection hv with h; cases h
  · rw [h'] at hv
    have : some (⟨g, 0, none⟩ : Addr) = some ad := by injection hv
    injection this with this
    subst this
    exact ⟨cur, hg⟩
theorem Tag.cut {w : World} {e : TypeId} {A : Option Addr} {n c m d : Nat} (h : Tag w e (.slice A n c)) : Tag w e (.slice A m d) := fun ad k b hv => by
  have hA : A = some ad := by injection hv
  subst hA
  exact h ad n c rfl
/-- What was appended to a row of another element type. -/
theorem Tag.far {w w' : World} {e e' : TypeId} {v r : Value} {base size n : Nat} {xs : List Value} (h : Tag w e v) (ho : w.ownsRow base e' size r n xs) (hne : e ≠ e') (hg : w.grownBy w' r.ownBlock) : Tag w' e v := fun ad m c hv => by
  obtain ⟨cur, hc⟩ := h ad m c hv
  refine ⟨cur, (hg.block _ (lt_of_block hc) ?_).trans hc⟩
  intro he
  rcases ho.2 with ⟨h', _⟩ | ⟨g, cap, cur', h', _, hg', _⟩
  · rw [h'] at he; cases he
  · rw [h'] at he
    have : ad.block = g := by simpa [Value.ownBlock] using he
    rw [this, hg'] at hc
    injection hc with hc
    injection hc with _ hc
    exact hne hc.symm
theorem Rd.far {w w' : World} {e e' : TypeId} {A : Option Addr} {m c : Nat} {ys : List Value} {r : Value} {base size n : Nat} {xs : List Value} (h : Rd w A ys) (ht : Tag w e (.slice A m c)) (ho : w.ownsRow base e' size r n xs) (hne : e ≠ e') (hg : w.grownBy w' r.ownBlock) : Rd w' A ys := fun i u hu => by
  obtain ⟨ad, rfl, hb, hc⟩ := h i u hu
  obtain ⟨cur, hcur⟩ := ht ad m c rfl
  have hk : w'.heap[ad.block]? = w.heap[ad.block]? := by
    refine hg.block _ hb ?_
    intro he
    rcases ho.2 with ⟨h', _⟩ | ⟨g, cap, cur', h', _, hg', _⟩
    · rw [h'] at he; cases he
    · rw [h'] at he
      have : ad.block = g := by simpa [Value.ownBlock] using he
      rw [this, hg'] at hcur
      injection hcur with hcur
      injection hcur with _ hcur
      exact hne hcur.symm
  refine ⟨ad, rfl, Nat.lt_of_lt_of_le hb hg.size, ?_⟩
  rw [World.cell?_of_block (w := w) (by rw [block_add]; exact hk)]
  exact hc

/-- The value is a slice whose elements are of the kind R. -/
def IsList {α : Type} (R : World → Value → α → Prop) (w : World) (v : Value) (xs : List α) : Prop :=
  ∃ A c vs, v = .slice A xs.length c ∧ xs.length ≤ c ∧ c ≤ maxLen ∧ vs.length = xs.length ∧ Rd w A vs ∧ ∀ (i : Nat) (u : Value) (x : α), vs[i]? = some u → xs[i]? = some x → R w u x
theorem IsList.grow {α : Type} {R : World → Value → α → Prop} (hR : ∀ w w' u x, R w u x → Grow w w' → R w' u x) {w w' : World} {v : Value} {xs : List α} (h : IsList R w v xs) (g : Grow w w') : IsList R w' v xs := by
  obtain ⟨A, c, vs, e, h1, h2, h3, h4, h5⟩ := h
  exact ⟨A, c, vs, e, h1, h2, h3, h4.grow g, fun i u x hu hx => hR _ _ _ _ (h5 i u x hu hx) g⟩
theorem Rd.val {w : World} {A : Option Addr} {vs : List Value} (h : Rd w A vs) {k : Nat} (hk : k < vs.length) : ∃ ad, A = some ad ∧ ad.block < w.heap.size ∧ w.cell? (ad.add k) = some vs[k] :=
  h k _ (List.getElem?_eq_getElem hk)

/-- The call began in w0; it owns the slice v, that holds the cells vs, each of one element. -/
def OwnV (w0 w : World) (e : TypeId) (v : Value) (vs : List Value) : Prop := w.ownsRow w0.heap.size e 1 v vs.length vs
section
variable {w0 w w' : World} {e : TypeId} {v : Value} {vs : List Value}
theorem OwnV.nil : OwnV w0 w e (.slice none 0 0) [] := World.ownsRow_nil _ _ _ _
theorem OwnV.kept (h : OwnV w0 w e v vs) (g : Grow w w') : OwnV w0 w' e v vs := by
  refine ⟨h.1, ?_⟩
  rcases h.2 with hn | ⟨g', cap, cur, e, hb, hh, r⟩
  · exact .inl hn
  · exact .inr ⟨g', cap, cur, e, hb, g.blk_some hh, r⟩
theorem OwnV.block (h : OwnV w0 w e v vs) : ∀ k, v.ownBlock = some k → w0.heap.size ≤ k := fun k hk => (World.ownsRow.lt h k hk).1
theorem OwnV.lit (w : World) (cs : List Value) (hg : Grow w0 w) (hm : cs.length ≤ 1000000) : OwnV w0 (w.alloc (.cells cs.toArray e)) e (.slice (some ⟨w.heap.size, 0, none⟩) cs.length cs.length) cs := by
  have h := World.ownsRow_lit (base := w0.heap.size) (e := e) (size := 1) w cs.toArray cs.length hg.size (by unfold maxLen; omega) (by simp)
  simp at h
  exact h
theorem OwnV.open_ (h : OwnV w0 w e v vs) : ∃ A c, v = .slice A vs.length c ∧ vs.length ≤ c ∧ c ≤ maxLen ∧ Rd w A vs := by
  rcases h.2 with ⟨rfl, hn⟩ | ⟨g, cap, cur, rfl, _, _, hn, hm, _⟩
  · have hz : vs = [] := List.eq_nil_of_length_eq_zero hn
    subst hz
    exact ⟨none, 0, rfl, Nat.le_refl _, Nat.zero_le _, Rd.nil⟩
  · exact ⟨_, _, rfl, hn, hm, Rd.of_own h⟩
theorem OwnV.is {α : Type} {R : World → Value → α → Prop} (h : OwnV w0 w e v vs) {xs : List α} (hl : vs.length = xs.length) (hR : ∀ (i : Nat) (u : Value) (x : α), vs[i]? = some u → xs[i]? = some x → R w u x) : IsList R w v xs := by
  obtain ⟨A, c, rfl, h1, h2, h3⟩ := h.open_
  exact ⟨A, c, vs, by rw [hl], by omega, h2, hl, h3, hR⟩
end
end Go.Proofs.YtomgilkchlediaaGreatDoor
