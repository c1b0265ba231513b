/-
  A map from four points to a count: what it holds; stores and look-ups.
-/
import Derived.Test.YtomgilkchlediaaTabM
import Derived.Maps.OwnSet
import Derived.Maps.Views
import Derived.Maps.RangeWalk
import Derived.DeepKeys4
import Derived.WideKeyEntry
namespace Go.Proofs.Ytomgilkchlediaa
open Go.RowKit Go.Maps Go.ChangeMaps

theorem fourLaid : laidOutB Try.prog = true := by kernel_rfl
theorem fourRow : (61 : TypeId) < Try.prog.types.size := of_decide_eq_true (by kernel_rfl)
theorem fourWide : (match Try.prog.underlying 61 with | some (.array _ _) | some (.struct _) => true | _ => false) = true := by rw [Try.underlying61]
set_option maxRecDepth 100000 in
theorem four_key : WideMaps.KeyLaw Try.prog 61 := deep_law_laid fourLaid (m := 2) (by omega) fourRow (by kernel_rfl) fourWide
theorem four_law : Maps.Keyed Try.prog 61 := Maps.Keyed.of_law four_key
theorem zeroInt (w : World) : (zeroValue 3).run Try.prog w = .ok (.int .i64 0) w := by kernel_rfl
/-- Four points. -/
abbrev P4 := Int × Int × Int × Int
abbrev fourV (p : P4) : Value := .agg #[.int .i64 p.1, .int .i64 p.2.1, .int .i64 p.2.2.1, .int .i64 p.2.2.2]
theorem four_cells : Try.prog.cellsOf 61 = 4 := by kernel_rfl
theorem int_cells : Try.prog.cellsOf 3 = 1 := by kernel_rfl
theorem four_isKey : Try.prog.keyType 61 = true := by kernel_rfl
theorem two_of {n : Nat} (h : 1 ≤ n) : ∃ m, n + 1 = m + 1 + 1 := ⟨n - 1, by omega⟩
theorem types_one : 1 ≤ Try.prog.types.size := of_decide_eq_true (by kernel_rfl)
theorem types_two : ∃ m, Try.prog.types.size + 1 = m + 1 + 1 := two_of types_one
structure Fit4 (p : P4) : Prop where
  a : (Lit.int .i64 p.1).wf = true
  b : (Lit.int .i64 p.2.1).wf = true
  c : (Lit.int .i64 p.2.2.1).wf = true
  d : (Lit.int .i64 p.2.2.2).wf = true
theorem key4_some {p : P4} (h : Fit4 p) : ∃ l, keyOf Try.prog 61 (fourV p) = some l := by
  obtain ⟨m, hm⟩ := types_two
  have hf : (fourV p).formed Try.prog 61 = true := by simp [Value.formed, Try.underlying61, four_cells]
  have h1 := h.a
  have h2 := h.b
  have h3 := h.c
  have h4 := h.d
  unfold keyOf
  rw [Try.underlying61, hm]
  simp only [four_isKey, hf, Bool.and_self, if_true]
  simp only [Program.keyLits, Try.underlying61, Try.underlying3, four_cells, int_cells, Value.cells]
  rw [show List.range 4 = [0, 1, 2, 3] from rfl]
  simp [h1, h2, h3, h4]
noncomputable def key4 (p : P4) : Lit := (keyOf Try.prog 61 (fourV p)).getD (.bool false)
theorem key4_is {p : P4} (h : Fit4 p) : keyOf Try.prog 61 (fourV p) = some (key4 p) := by
  obtain ⟨l, hl⟩ := key4_some h
  unfold key4
  rw [hl]; rfl
set_option maxRecDepth 100000 in
theorem key4_inj {p q : P4} (h : Fit4 p) (k : Fit4 q) (e : key4 p = key4 q) : p = q := by
  have e := four_law.inj (key4_is h) (by rw [e]; exact key4_is k)
  injection e with e
  have e2 := congrArg Array.toList e
  simp at e2
  obtain ⟨a, b, c, d⟩ := p
  obtain ⟨a', b', c', d'⟩ := q
  simp at e2
  simp [e2]
/-- Block b is the map that leads from these points to their counts. -/
def MapE (w : World) (b : Nat) (qs : List (P4 × Int)) : Prop := ∃ D : DataW Unit, w.ownsMap Try.prog 61 (plainElem Try.prog 3) b qs.length D ∧ Maps.size D = qs.length ∧
  (∀ p, Fit4 p → Maps.has D (key4 p) = decide (∃ x ∈ qs, x.1 = p)) ∧ (∀ x ∈ qs, ∀ z, D.atKey (key4 x.1) z = .lit (.int .i64 x.2))
theorem MapE.made (w : World) : MapE (w.alloc (.map #[] 0)) w.heap.size [] :=
  ⟨.map [], World.ownsMap_made _ _ _ _, rfl, fun p _ => by simp [Maps.has], fun x hx => by simp at hx⟩
theorem MapE.lt {w : World} {b : Nat} {qs : List (P4 × Int)} (h : MapE w b qs) : b < w.heap.size := by
  obtain ⟨D, h, _⟩ := h
  exact h.lt
theorem MapE.at {w w' : World} {b : Nat} {qs : List (P4 × Int)} (h : MapE w b qs) (hb : w'.heap[b]? = w.heap[b]?) : MapE w' b qs := by
  obtain ⟨D, ⟨es, clock, h1, h2⟩, h3⟩ := h
  exact ⟨D, ⟨es, clock, hb.trans h1, h2⟩, h3⟩
/-- What the map holds at some points. -/
def atE (qs : List (P4 × Int)) (p : P4) : Int := match qs.find? (fun x => decide (x.1 = p)) with | some x => x.2 | none => 0
/-- A count is added at some points. -/
def addE (qs : List (P4 × Int)) (p : P4) (n : Int) : List (P4 × Int) :=
  if ∃ x ∈ qs, x.1 = p then qs.map fun x => if x.1 = p then (x.1, x.2 + n) else x else qs ++ [(p, n)]
/-- The sum over the entries. -/
def msum (qs : List (P4 × Int)) (f : P4 → Int) : Int := sumI (qs.map fun x => x.2 * f x.1)
def Once (qs : List (P4 × Int)) : Prop := qs.Pairwise (fun x y => x.1 ≠ y.1)
theorem msum_add {qs : List (P4 × Int)} (h : Once qs) (p : P4) (n : Int) (f : P4 → Int) : msum (addE qs p n) f = msum qs f + n * f p := by
  unfold addE
  by_cases he : ∃ x ∈ qs, x.1 = p
  · rw [if_pos he]
    induction qs with
    | nil => obtain ⟨x, hx, _⟩ := he; simp at hx
    | cons y qs ih =>
      obtain ⟨h1, h2⟩ := List.pairwise_cons.1 h
      unfold msum at *
      simp only [List.map_cons, sumI_cons]
      by_cases e : y.1 = p
      · rw [if_pos e]
        have hm : (qs.map fun x => if x.1 = p then (x.1, x.2 + n) else x) = qs := by
          conv => rhs; rw [← List.map_id qs]
          refine List.map_congr_left fun x hx => ?_
          rw [if_neg (fun e2 => h1 x hx (e.trans e2.symm))]
          rfl
        rw [hm, ← e]
        simp only [Int.add_mul]
        omega
      · rw [if_neg e]
        have := ih h2 (by
          obtain ⟨x, hx, e2⟩ := he
          rcases List.mem_cons.1 hx with rfl | hx
          · exact absurd e2 e
          · exact ⟨x, hx, e2⟩)
        rw [this]
        omega
  · rw [if_neg he]
    unfold msum
    rw [List.map_append, sumI_append]
    simp [sumI]
theorem once_add {qs : List (P4 × Int)} (h : Once qs) (p : P4) (n : Int) : Once (addE qs p n) := by
  unfold addE
  by_cases he : ∃ x ∈ qs, x.1 = p
  · rw [if_pos he]
    unfold Once
    rw [List.pairwise_map]
    refine h.imp fun {x y} hxy => ?_
    have e1 : ∀ z : P4 × Int, (if z.1 = p then (z.1, z.2 + n) else z).1 = z.1 := fun z => by split <;> rfl
    rw [e1, e1]
    exact hxy
  · rw [if_neg he]
    unfold Once
    rw [List.pairwise_append]
    refine ⟨h, by simp, fun x hx y hy => ?_⟩
    rw [List.mem_singleton] at hy
    subst hy
    exact fun e => he ⟨x, hx, e⟩
theorem atE_in {qs : List (P4 × Int)} (h : Once qs) {x : P4 × Int} (hx : x ∈ qs) : atE qs x.1 = x.2 := by
  unfold atE
  induction qs with
  | nil => simp at hx
  | cons y qs ih =>
    obtain ⟨h1, h2⟩ := List.pairwise_cons.1 h
    rw [List.find?_cons]
    rcases List.mem_cons.1 hx with rfl | hx
    · simp
    · rw [decide_eq_false (h1 x hx)]
      exact ih h2 hx
theorem atE_out {qs : List (P4 × Int)} {p : P4} (h : ¬ ∃ x ∈ qs, x.1 = p) : atE qs p = 0 := by
  unfold atE
  rw [List.find?_eq_none.2 fun x hx => by simp only [decide_eq_true_eq]; exact fun e => h ⟨x, hx, e⟩]
theorem addE_len (qs : List (P4 × Int)) (p : P4) (n : Int) : (addE qs p n).length = if ∃ x ∈ qs, x.1 = p then qs.length else qs.length + 1 := by
  unfold addE
  by_cases he : ∃ x ∈ qs, x.1 = p
  · rw [if_pos he, if_pos he, List.length_map]
  · rw [if_neg he, if_neg he, List.length_append]; rfl
theorem addE_mem {qs : List (P4 × Int)} (h : Once qs) {p : P4} {n : Int} {y : P4 × Int} : y ∈ addE qs p n ↔ (y ∈ qs ∧ y.1 ≠ p) ∨ y = (p, atE qs p + n) := by
  unfold addE
  by_cases he : ∃ x ∈ qs, x.1 = p
  · rw [if_pos he]
    obtain ⟨x0, hx0, rfl⟩ := he
    rw [atE_in h hx0]
    constructor
    · intro hy
      obtain ⟨x, hx, rfl⟩ := List.mem_map.1 hy
      by_cases e : x.1 = x0.1
      · right
        have h1 := atE_in h hx
        rw [e, atE_in h hx0] at h1
        rw [if_pos e, e, h1]
      · left
        rw [if_neg e]
        exact ⟨hx, e⟩
    · rintro (⟨hy, e⟩ | rfl)
      · exact List.mem_map.2 ⟨y, hy, if_neg e⟩
      · exact List.mem_map.2 ⟨x0, hx0, if_pos rfl⟩
  · rw [if_neg he, atE_out he, Int.zero_add]
    constructor
    · intro hy
      rcases List.mem_append.1 hy with hy | hy
      · exact .inl ⟨hy, fun e => he ⟨y, hy, e⟩⟩
      · exact .inr (List.mem_singleton.1 hy)
    · rintro (⟨hy, _⟩ | rfl)
      · exact List.mem_append_left _ hy
      · exact List.mem_append_right _ (List.mem_singleton.2 rfl)
set_option maxRecDepth 100000 in
theorem MapE.look {w : World} {b : Nat} {qs : List (P4 × Int)} (h : MapE w b qs) (ho : Once qs) (t : TypeId) (ht : Try.prog.underlying t = some (.map 61 3)) {p : P4} (hf : Fit4 p) :
    (Instr.lookup t (.map (some b)) (fourV p) false).run Try.prog w = .ok (.int .i64 (atE qs p)) w := by
  obtain ⟨D, hown, _, h1, h2⟩ := h
  obtain ⟨c, hr, hat, _⟩ := hown.lookup_int four_law ht Try.underlying3 (zeroInt w) (key4_is hf)
  rw [hr]
  by_cases he : ∃ x ∈ qs, x.1 = p
  · obtain ⟨x, hx, rfl⟩ := he
    rw [h2 x hx] at hat
    injection hat with hat
    injection hat with _ hat
    rw [← hat, atE_in ho hx]
  · have hno : Maps.has D (key4 p) = false := by rw [h1 p hf]; exact decide_eq_false he
    rw [Maps.atKey_of_not_has hno] at hat
    injection hat with hat
    injection hat with _ hat
    rw [← hat, atE_out he]
theorem ownsMap_tight {w : World} {b n : Nat} {D : DataW Unit} (h : w.ownsMap Try.prog 61 (plainElem Try.prog 3) b n D) : w.ownsMap Try.prog 61 (plainElem Try.prog 3) b (Maps.size D) D := by
  obtain ⟨es, clock, hb, F, _, rfl⟩ := h
  refine ⟨es, clock, hb, F, ?_, rfl⟩
  have e1 : es.size = ((es.toList.map (WideElems.rg Try.prog 61 (plainElem (H := Unit) Try.prog 3))).foldr DataW.insert []).length := by rw [length_sorted]; simp
  rw [e1]
  exact Nat.le_refl _
set_option maxRecDepth 100000 in
/-- 'm[p] += n': the entry is laid, then its element is stored. -/
theorem MapE.put {w : World} {b : Nat} {qs : List (P4 × Int)} (h : MapE w b qs) (ho : Once qs) (t : TypeId) (ht : Try.prog.underlying t = some (.map 61 3)) {p : P4} (hf : Fit4 p) (hall : ∀ x ∈ qs, Fit4 x.1) {n : Int} (hn : (Lit.int .i64 (atE qs p + n)).wf = true) (hl : qs.length < maxLen) :
    ∃ (v0 : Value) (st : Nat) (es1 : Array MapEntry) (clock1 : Nat), (Instr.mapEntry t (.map (some b)) (fourV p)).run Try.prog w = .ok (.tuple #[v0, goInt st]) (setBlock w b (.map es1 clock1)) ∧
      ∀ w2 : World, w2.heap[b]? = some (.map es1 clock1) → ∃ es2 clock2, (Instr.entryStore t (.map (some b)) (goInt st) (.int .i64 (atE qs p + n))).run Try.prog w2 = .ok () (setBlock w2 b (.map es2 clock2)) ∧ MapE (setBlock w2 b (.map es2 clock2)) b (addE qs p n) := by
  obtain ⟨D, hown, hsz, h1, h2⟩ := h
  obtain ⟨es, clock, hb, F, hs, hD⟩ := id hown
  obtain ⟨v0, st, es1, clock1, hrun, _, hst⟩ := WideElems.entry_then_store four_key ht (fun u => zeroInt u) hb F (key4_is hf)
  refine ⟨v0, st, es1, clock1, hrun, fun w2 hw2 => ?_⟩
  obtain ⟨es2, clock2, hs1, hs2⟩ := hst w2 (.int .i64 (atE qs p + n)) hw2
  refine ⟨es2, clock2, hs1, ?_⟩
  obtain ⟨w', hr, ho2, _⟩ := hown.store four_law ht hl (key4_is hf) (plainElem_int Try.underlying3 hn)
  rw [hs2] at hr
  injection hr with _ hr
  subst hr
  have hkl := four_law.key (key4_is hf)
  have hm := hown.isMap
  have ho3 := ownsMap_tight ho2
  have hsize : Maps.size (D.put (key4 p) (.lit (.int .i64 (atE qs p + n)))) = (addE qs p n).length := by
    rw [Maps.size_put (hown.tidy four_law), h1 p hf, addE_len, hsz]
    by_cases he : ∃ x ∈ qs, x.1 = p
    · rw [if_pos he, decide_eq_true he]; rfl
    · rw [if_neg he, decide_eq_false he]; rfl
  rw [hsize] at ho3
  have hat : ∀ x ∈ addE qs p n, ∀ z, (D.put (key4 p) (.lit (.int .i64 (atE qs p + n)))).atKey (key4 x.1) z = .lit (.int .i64 x.2) := fun x hx z => by
    rcases (addE_mem ho).1 hx with ⟨hx, hne⟩ | rfl
    · rw [Maps.atKey_put_other (fun e => hne (key4_inj (hall x hx) hf e))]
      exact h2 x hx z
    · exact Maps.atKey_put_same hm hkl _ z
  have hhas : ∀ q, Fit4 q → Maps.has (D.put (key4 p) (.lit (.int .i64 (atE qs p + n)))) (key4 q) = decide (∃ x ∈ addE qs p n, x.1 = q) := fun q hq => by
    by_cases e : q = p
    · subst e
      rw [Maps.has_put_same hm hkl, eq_comm, decide_eq_true_iff]
      exact ⟨_, (addE_mem ho).2 (.inr rfl), rfl⟩
    · rw [Maps.has_put_other (fun e2 => e (key4_inj hq hf e2)), h1 q hq]
      refine decide_eq_decide.2 ⟨fun ⟨y, hy, e2⟩ => ⟨y, (addE_mem ho).2 (.inl ⟨hy, by rw [e2]; exact e⟩), e2⟩, fun ⟨y, hy, e2⟩ => ?_⟩
      rcases (addE_mem ho).1 hy with ⟨hy, _⟩ | rfl
      · exact ⟨y, hy, e2⟩
      · exact absurd e2.symm e
  refine MapE.at (w := setBlock w b (.map es2 clock2)) ⟨_, ho3, hsize, hhas, hat⟩ ?_
  rw [heap_setBlock_same hb, heap_setBlock_same hw2]
set_option maxRecDepth 100000 in
/-- 'map[[4]int]int{p: n}'. -/
theorem MapE.first {w : World} {b : Nat} (h : MapE w b []) (t : TypeId) (ht : Try.prog.underlying t = some (.map 61 3)) {p : P4} (hf : Fit4 p) {n : Int} (hn : (Lit.int .i64 n).wf = true) :
    ∃ w', (Instr.mapUpdate t (.map (some b)) (fourV p) (.int .i64 n)).run Try.prog w = .ok () w' ∧ MapE w' b [(p, n)] ∧ w.mapTurned w' b := by
  obtain ⟨D, hown, hsz, h1, h2⟩ := h
  obtain ⟨w', hr, ho2, ht2⟩ := hown.store four_law ht (by unfold maxLen; simp) (key4_is hf) (plainElem_int Try.underlying3 hn)
  have hkl := four_law.key (key4_is hf)
  have hm := hown.isMap
  refine ⟨w', hr, ⟨_, ho2, ?_, fun q hq => ?_, fun x hx z => ?_⟩, ht2⟩
  · rw [Maps.size_put (hown.tidy four_law), h1 p hf, hsz]
    simp
  · by_cases e : q = p
    · subst e
      rw [Maps.has_put_same hm hkl]
      simp
    · rw [Maps.has_put_other (fun e2 => e (key4_inj hq hf e2)), h1 q hq]
      simp
      exact fun e2 => e e2.symm
  · rw [List.mem_singleton] at hx
    subst hx
    exact Maps.atKey_put_same hm hkl _ z
theorem int_lits {d : Nat} {v : Value} {ls : List Lit} (h : Try.prog.keyLits (d + 1) 3 [v] = some ls) : ∃ z, v = .int .i64 z ∧ (Lit.int .i64 z).wf = true := by
  cases v <;> simp [Program.keyLits, Try.underlying3] at h
  obtain ⟨⟨rfl, hw⟩, _⟩ := h
  exact ⟨_, rfl, hw⟩
theorem four_of {cs : Array Value} (h : cs.size = 4) : ∃ a b c d, cs = #[a, b, c, d] := by
  obtain ⟨l⟩ := cs
  match l, h with
  | [a, b, c, d], _ => exact ⟨a, b, c, d, rfl⟩
theorem four_inv {key : Value} {kl : Lit} (h : keyOf Try.prog 61 key = some kl) : ∃ x : P4, key = fourV x ∧ Fit4 x := by
  obtain ⟨m, hm⟩ := types_two
  unfold keyOf at h
  rw [Try.underlying61, hm] at h
  simp only at h
  split at h
  · rename_i hc
    simp only [Bool.and_eq_true] at hc
    obtain ⟨_, hf⟩ := hc
    obtain ⟨cs, rfl, hs⟩ : ∃ cs, key = .agg cs ∧ cs.size = 4 := by
      cases key <;> simp [Value.formed, Try.underlying61, four_cells] at hf
      exact ⟨_, rfl, hf⟩
    obtain ⟨a, b, c, d, rfl⟩ := four_of hs
    cases hk : Try.prog.keyLits (m + 1 + 1) 61 (Value.agg #[a, b, c, d]).cells.toList with
    | none => rw [hk] at h; cases h
    | some ls =>
      rw [Program.keyLits.eq_def] at hk
      simp only [Try.underlying61, four_cells, int_cells, Value.cells] at hk
      rw [show List.range 4 = [0, 1, 2, 3] from rfl] at hk
      cases h0 : Try.prog.keyLits (m + 1) 3 [a] with
      | none => simp [h0] at hk
      | some l0 =>
        cases h1 : Try.prog.keyLits (m + 1) 3 [b] with
        | none => simp [h0, h1] at hk
        | some l1 =>
          cases h2 : Try.prog.keyLits (m + 1) 3 [c] with
          | none => simp [h0, h1, h2] at hk
          | some l2 =>
            cases h3 : Try.prog.keyLits (m + 1) 3 [d] with
            | none => simp [h0, h1, h2, h3] at hk
            | some l3 =>
              obtain ⟨a, rfl, w0⟩ := int_lits h0
              obtain ⟨b, rfl, w1⟩ := int_lits h1
              obtain ⟨c, rfl, w2⟩ := int_lits h2
              obtain ⟨d, rfl, w3⟩ := int_lits h3
              exact ⟨(a, b, c, d), rfl, ⟨w0, w1, w2, w3⟩⟩
  · cases h
/-- What an entry that comes up is. -/
theorem entry_is {D : DataW Unit} {qs : List (P4 × Int)} {p : P4} {kl : Lit} {y : DataW Unit} (h1 : ∀ p, Fit4 p → Maps.has D (key4 p) = decide (∃ x ∈ qs, x.1 = p)) (h2 : ∀ x ∈ qs, ∀ z, D.atKey (key4 x.1) z = .lit (.int .i64 x.2))
    (hk : keyOf Try.prog 61 (fourV p) = some kl) (hat : ∀ zd, D.atKey kl zd = y) : Fit4 p ∧ kl = key4 p ∧ ∃ x ∈ qs, x.1 = p ∧ y = .lit (.int .i64 x.2) := by
  obtain ⟨q, e, hf⟩ := four_inv hk
  have hpq : p = q := by
    injection e with e
    have e2 := congrArg Array.toList e
    obtain ⟨a, b, c, d⟩ := p
    obtain ⟨a', b', c', d'⟩ := q
    simp at e2
    simp [e2]
  subst hpq
  have hkl : kl = key4 p := by rw [key4_is hf] at hk; exact (Option.some.inj hk).symm
  subst hkl
  refine ⟨hf, rfl, ?_⟩
  have hh : Maps.has D (key4 p) = true := Maps.has_true_of_atKey hat
  rw [h1 p hf, decide_eq_true_iff] at hh
  obtain ⟨x, hx, rfl⟩ := hh
  exact ⟨x, hx, rfl, (hat .nil).symm.trans (h2 x hx _)⟩
end Go.Proofs.Ytomgilkchlediaa
