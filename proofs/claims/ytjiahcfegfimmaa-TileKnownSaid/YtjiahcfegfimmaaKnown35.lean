/-
  A map from places to kinds: what it holds; stores and look-ups.
-/
import Derived.Test.YtjiahcfegfimmaaKnown18
import Derived.Maps.OwnSet
import Derived.Maps.OwnIn
import Derived.Maps.Views
import Derived.DeepKeys4
namespace Go.Proofs.Ytjiahcfegfimmaa
open Go.RowKit Go.Maps

theorem placeLaid : laidOutB Try.prog = true := by kernel_rfl
theorem placeRow : (100 : TypeId) < Try.prog.types.size := of_decide_eq_true (by kernel_rfl)
theorem placeWide : (match Try.prog.underlying 100 with | some (.array _ _) | some (.struct _) => true | _ => false) = true := by rw [Try.underlying100]
set_option maxRecDepth 100000 in
theorem place_law : Maps.Keyed Try.prog 100 := Maps.Keyed.of_law (deep_law_laid placeLaid (m := 2) (by omega) placeRow (by kernel_rfl) placeWide)
theorem zeroInt (w : World) : (zeroValue 3).run Try.prog w = .ok (.int .i64 0) w := by kernel_rfl
abbrev placeV (su r : Int) : Value := .agg #[.int .i64 su, .int .i64 r]
theorem place_cells : Try.prog.cellsOf 100 = 2 := by kernel_rfl
theorem int_cells : Try.prog.cellsOf 3 = 1 := by kernel_rfl
theorem place_key : Try.prog.keyType 100 = true := by kernel_rfl
theorem two_of {n : Nat} (h : 1 ≤ n) : ∃ m, n + 1 = m + 1 + 1 := ⟨n - 1, by omega⟩
theorem types_one : 1 ≤ Try.prog.types.size := of_decide_eq_true (by kernel_rfl)
theorem types_two : ∃ m, Try.prog.types.size + 1 = m + 1 + 1 := two_of types_one
theorem key_some {su r : Int} (h1 : (Lit.int .i64 su).wf = true) (h2 : (Lit.int .i64 r).wf = true) : ∃ l, keyOf Try.prog 100 (placeV su r) = some l := by
  obtain ⟨m, hm⟩ := types_two
  have hf : (placeV su r).formed Try.prog 100 = true := by simp [Value.formed, Try.underlying100, place_cells]
  unfold keyOf
  rw [Try.underlying100, hm]
  simp only [place_key, hf, Bool.and_self, if_true]
  simp [Program.keyLits, Try.underlying100, Try.underlying3, place_cells, int_cells, Value.cells, h1, h2]
noncomputable def keyL (su r : Int) : Lit := (keyOf Try.prog 100 (placeV su r)).getD (.bool false)
theorem keyL_is {su r : Int} (h1 : (Lit.int .i64 su).wf = true) (h2 : (Lit.int .i64 r).wf = true) : keyOf Try.prog 100 (placeV su r) = some (keyL su r) := by
  obtain ⟨l, hl⟩ := key_some h1 h2
  unfold keyL
  rw [hl]; rfl
set_option maxRecDepth 100000 in
theorem keyL_inj {su r su' r' : Int} (h1 : (Lit.int .i64 su).wf = true) (h2 : (Lit.int .i64 r).wf = true) (h3 : (Lit.int .i64 su').wf = true) (h4 : (Lit.int .i64 r').wf = true) (h : keyL su r = keyL su' r') : (su, r) = (su', r') := by
  have e := place_law.inj (keyL_is h1 h2) (by rw [h]; exact keyL_is h3 h4)
  injection e with e
  have e2 := congrArg Array.toList e
  simp at e2
  rw [e2.1, e2.2]
/-- A place that fits. -/
def FitP (p : Int × Int) : Prop := (Lit.int .i64 p.1).wf = true ∧ (Lit.int .i64 p.2).wf = true
/-- Block b is the map that leads from these places to their kinds. -/
def MapP (w : World) (b : Nat) (ps : List KPlace) : Prop := ∃ D : DataW Unit, w.ownsMap Try.prog 100 (plainElem Try.prog 3) b ps.length D ∧
  (∀ p : Int × Int, FitP p → Maps.has D (keyL p.1 p.2) = decide (∃ x ∈ ps, x.2 = p)) ∧ (∀ x ∈ ps, ∀ z, D.atKey (keyL x.2.1 x.2.2) z = .lit (.int .i64 x.1))
theorem MapP.made (w : World) : MapP (w.alloc (.map #[] 0)) w.heap.size [] :=
  ⟨.map [], World.ownsMap_made _ _ _ _, fun p _ => by simp [Maps.has], fun x hx => by simp at hx⟩
theorem MapP.lt {w : World} {b : Nat} {ps : List KPlace} (h : MapP w b ps) : b < w.heap.size := by
  obtain ⟨D, h, _⟩ := h
  exact h.lt
theorem MapP.at {w w' : World} {b : Nat} {ps : List KPlace} (h : MapP w b ps) (hb : w'.heap[b]? = w.heap[b]?) : MapP w' b ps := by
  obtain ⟨D, ⟨es, clock, h1, h2⟩, h3⟩ := h
  exact ⟨D, ⟨es, clock, hb.trans h1, h2⟩, h3⟩
set_option maxRecDepth 100000 in
theorem MapP.put {w : World} {b : Nat} {ps : List KPlace} (h : MapP w b ps) (x : KPlace) (t : TypeId) (ht : Try.prog.underlying t = some (.map 100 3)) (h0 : (Lit.int .i64 x.1).wf = true) (hx : FitP x.2) (hall : ∀ y ∈ ps, FitP y.2) (hne : ∀ y ∈ ps, y.2 ≠ x.2) (hl : ps.length ≤ 1000000) :
    ∃ w', (Instr.mapUpdate t (.map (some b)) (placeV x.2.1 x.2.2) (.int .i64 x.1)).run Try.prog w = .ok () w' ∧ MapP w' b (ps ++ [x]) ∧ w.mapTurned w' b := by
  obtain ⟨D, hown, h1, h2⟩ := h
  have hk := keyL_is hx.1 hx.2
  obtain ⟨w', hr, ho, ht'⟩ := hown.store place_law ht (by unfold maxLen; omega) hk (plainElem_int Try.underlying3 h0)
  have hkl := place_law.key hk
  have hm := hown.isMap
  refine ⟨w', hr, ⟨_, by rw [List.length_append]; exact ho, fun p hp => ?_, fun y hy z => ?_⟩, ht'⟩
  · by_cases e : p = x.2
    · subst e
      rw [Maps.has_put_same hm hkl, eq_comm, decide_eq_true_iff]
      exact ⟨x, by simp, rfl⟩
    · rw [Maps.has_put_other (fun e2 => e (keyL_inj hp.1 hp.2 hx.1 hx.2 e2)), h1 p hp]
      refine decide_eq_decide.2 ⟨fun ⟨y, hy, e2⟩ => ⟨y, by simp [hy], e2⟩, fun ⟨y, hy, e2⟩ => ?_⟩
      rcases List.mem_append.1 hy with hy | hy
      · exact ⟨y, hy, e2⟩
      · rw [List.mem_singleton] at hy; subst hy; exact absurd e2.symm e
  · rcases List.mem_append.1 hy with hy | hy
    · rw [Maps.atKey_put_other (fun e2 => hne y hy (keyL_inj (hall y hy).1 (hall y hy).2 hx.1 hx.2 e2))]
      exact h2 y hy z
    · rw [List.mem_singleton] at hy; subst hy
      exact Maps.atKey_put_same hm hkl _ z
set_option maxRecDepth 100000 in
theorem MapP.look {w : World} {b : Nat} {ps : List KPlace} (h : MapP w b ps) (t : TypeId) (ht : Try.prog.underlying t = some (.map 100 3)) {x : KPlace} (hx : x ∈ ps) (hf : FitP x.2) :
    (Instr.lookup t (.map (some b)) (placeV x.2.1 x.2.2) true).run Try.prog w = .ok (.tuple #[.int .i64 x.1, .bool true]) w := by
  obtain ⟨D, hown, h1, h2⟩ := h
  obtain ⟨v, ps', hr, hv⟩ := hown.look_ok place_law ht (zeroInt w) (plainElem_int Try.underlying3 (by decide)) (keyL_is hf.1 hf.2)
  rw [h1 x.2 hf, decide_eq_true ⟨x, hx, rfl⟩] at hr
  rw [h2 x hx] at hv
  obtain ⟨c, rfl, hc, _⟩ := plainElem_int_inv Try.underlying3 hv
  injection hc with hc _
  injection hc with hc
  injection hc with _ hc
  rw [hr, hc]
set_option maxRecDepth 100000 in
theorem MapP.miss {w : World} {b : Nat} {ps : List KPlace} (h : MapP w b ps) (t : TypeId) (ht : Try.prog.underlying t = some (.map 100 3)) {p : Int × Int} (hf : FitP p) (hx : ∀ x ∈ ps, x.2 ≠ p) :
    (Instr.lookup t (.map (some b)) (placeV p.1 p.2) true).run Try.prog w = .ok (.tuple #[.int .i64 0, .bool false]) w := by
  obtain ⟨D, hown, h1, h2⟩ := h
  obtain ⟨v, ps', hr, hv⟩ := hown.look_ok place_law ht (zeroInt w) (plainElem_int Try.underlying3 (by decide)) (keyL_is hf.1 hf.2)
  have hno : Maps.has D (keyL p.1 p.2) = false := by
    rw [h1 p hf]
    exact decide_eq_false fun ⟨x, hx', e⟩ => hx x hx' e
  rw [hno] at hr
  rw [Maps.atKey_of_not_has hno] at hv
  obtain ⟨c, rfl, hc, _⟩ := plainElem_int_inv Try.underlying3 hv
  injection hc with hc _
  injection hc with hc
  injection hc with _ hc
  rw [hr, hc]
end Go.Proofs.Ytjiahcfegfimmaa
