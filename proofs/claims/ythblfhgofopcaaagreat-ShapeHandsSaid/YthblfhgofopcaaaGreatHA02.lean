/-
  Parts of the proof: VmC, VmD.
-/
import Derived.Test.YthblfhgofopcaaaGreatHA01
set_option linter.all false
namespace Go.Proofs.YthblfhgofopcaaaGreat
open Go.RowKit
variable [DM]
section
variable {P : Program} {T : Tys} {c : Cx} {h : HF}
theorem cells_one {y : Value} (h1 : y.oneCell' = true) : y.cells = #[y] := by
 cases y <;> first | rfl | cases h1
theorem cs_one {x : AV} (h1 : x.one = true) : x.cs = [x] := by
 cases x <;> first | rfl | cases h1
theorem cells_rel {x : AV} {y : Value} (hb : boxable x = true) (hx : RelV c h x y) : y.cells.size = x.cs.length ∧ ∀ (j : Nat) (u : AV), x.cs[j]? = some u → ∃ v, y.cells[j]? = some v ∧ RelV c h u v := by
 by_cases ha : ∃ l, x = .agg l
 ·obtain ⟨l, rfl⟩ := ha
  cases hx with
  | agg l ys hl hi =>
   refine ⟨hl.symm, fun j u hu => ?_⟩
   have hj : j < ys.size := by rw [← hl]; exact (List.getElem?_eq_some_iff.1 hu).1
   exact ⟨ys[j], by simp [Value.cells, hj], hi j u _ hu (by simp [hj])⟩
 ·have h1 : x.one = true := by
   cases x <;> first | exact hb | exact absurd ⟨_, rfl⟩ ha
  have hy := hx.oneCell h1
  rw [cells_one hy, cs_one h1]
  refine ⟨rfl, fun j u hu => ?_⟩
  cases j with
  | zero => simp at hu; subst hu; exact ⟨y, rfl, hx⟩
  | succ j => simp at hu
theorem ran_box {ρ : Operand → Value} {o : Oper} {e : Nat} {X : Operand} {x : AV} {nm : Nat} (ho : o.op = .box e X) (hh : RelH c h) (hx : RelV c h x (ρ X)) (hb : boxable x = true) (hn : h nm = .nil) :
  Ran P c h (execOp ρ o) (.ref nm 0 0 0) (ups [(nm, .arr 0 x.cs.length [x])] h) := by
 obtain ⟨h1, h2⟩ := cells_rel hb hx
 obtain ⟨K, H, e1⟩ := new_obj hh hn x.cs.length [x] (ρ X).cells e (by simp [h1]) (fun i e he => by
  cases i with
  | zero => simp at he; rw [← he]
  | succ i => simp at he) (fun i e j u he hj => by
  cases i with
  | zero => simp at he; subst he; simpa using h2 j u hj
  | succ i => simp at he)
 refine ⟨.pointer (some ⟨c.w.heap.size, 0, none⟩), _, .inl ?_, K, H, .ref _ _ _ _ _ rfl ?_⟩
 ·simp [execOp, ho, Instr.box, newVar, newRow]
 ·rw [e1]
  exact ⟨Nat.le_refl _, fun _ => by simp⟩
theorem ran_alloc {ρ : Operand → Value} {o : Oper} {e : Nat} {i : TI} {nm : Nat} (hT : TyOk P T) (ho : o.op = .alloc e) (ht : T e = some i) (hh : RelH c h) (hz : i.agg = true ∨ i.zero.length = 1) (hn : h nm = .nil) :
  Ran P c h (execOp ρ o) (.ref nm 0 0 0) (ups [(nm, .arr 0 i.zero.length [zeroE i])] h) := by
 obtain ⟨z, z1, z2, z3⟩ := run_zero hT ht
 have hcs : (zeroE i).cs = i.zero.map .v := by
  unfold zeroE
  split
  ·rfl
  ·rename_i hna
   rcases hz with h1 | h1
   ·exact absurd h1 hna
   ·obtain ⟨a, ha⟩ := List.length_eq_one_iff.1 h1
    rw [ha]; rfl
 obtain ⟨K, H, e1⟩ := new_obj hh hn i.zero.length [zeroE i] z.cells e (by simp [← z1]) (fun k e he => by
  cases k with
  | zero => simp at he; rw [← he, hcs]; simp
  | succ k => simp at he) (fun k e j u he hj => by
  cases k with
  | zero =>
   simp at he; subst he
   rw [hcs] at hj
   simp only [List.getElem?_map, Option.map_eq_some_iff] at hj
   obtain ⟨v, hv, rfl⟩ := hj
   rw [← z1] at hv
   exact ⟨v, by simpa using hv, .v v⟩
  | succ k => simp at he)
 refine ⟨.pointer (some ⟨c.w.heap.size, 0, none⟩), _, .inl ?_, K, H, .ref _ _ _ _ _ rfl ?_⟩
 ·simp [execOp, ho, Instr.alloc, newVar, newRow, z3]
 ·rw [e1]
  exact ⟨Nat.le_refl _, fun _ => by simp⟩
def CellsAt (c : Cx) (h : HF) (b o : Nat) (e : AV) : Prop := ∃ F : Nat → Value, ∀ (j : Nat) (x : AV), e.cs[j]? = some x → c.w.cell? ⟨b, o + j, none⟩ = some (F j) ∧ RelV c h x (F j)
theorem CellsAt.of_ref (hh : RelH c h) {r g k j sz : Nat} {es : List AV} {y : Value} (hr : h r = .arr g sz es) (hk : k < es.length) (hy : RelV c h (.ref r g k j) y) :
  y = .pointer (some ⟨c.bl r, k * sz + j, none⟩) ∧ (nth es k).cs.length = sz ∧ CellsAt c h (c.bl r) (k * sz) (nth es k) := by
 have hl : c.rl r = true := by
  cases hl : c.rl r with
  | true => rfl
  | false => rw [hh.em r g sz es hr hl] at hk; simp at hk
 obtain ⟨cs, ty, h1, _, h3, h4⟩ := hh.ar r g sz es hr hl
 have hn : es[k]? = some (nth es k) := by simp [nth, hk]
 refine ⟨?_, h3 k _ hn, fun m => cs[k * sz + m]?.getD undef, fun m x hx => ?_⟩
 ·cases hy with
  | ref _ _ _ _ _ _ hg =>
   rw [hr] at hg
   exact hg.2 rfl
 ·obtain ⟨v, hv, hrel⟩ := h4 k _ m x hn hx
  show _ = some (cs[k * sz + m]?.getD undef) ∧ RelV c h x (cs[k * sz + m]?.getD undef)
  rw [cell_of_row c.w _ _ cs ty (0, 0) h1, hv]
  exact ⟨rfl, hrel⟩
theorem CellsAt.of_isp {f : Bool} {sz k j : Nat} {es : List AV} {y : Value} (hk : k < es.length) (hy : RelV c h (.isp f sz es k j) y) :
  ∃ b o, y = .pointer (some ⟨b, o + k * sz + j, none⟩) ∧ (nth es k).cs.length = sz ∧ CellsAt c h b (o + k * sz) (nth es k) := by
 have hn : es[k]? = some (nth es k) := by simp [nth, hk]
 cases hy with
 | isp _ _ _ _ _ b o ys _ hz hc hr => exact ⟨b, o, rfl, hz k _ hn, fun m => ys k m, fun m x hx => ⟨hc k _ m x hn hx, hr k _ m x hn hx⟩⟩
theorem run_part (hT : TyOk P T) {t : Nat} {i : TI} (ht : T t = some i) {b o sz j : Nat} {e x : AV} {p : Prop} {us : List (Nat × Ob)} (hs : e.cs.length = sz) (hc : CellsAt c h b o e) (hp : partF i sz e j = .out p x us) (hq : p) :
  us = [] ∧ ∃ y, (loadVar t ⟨b, o + j, none⟩).run P c.w = .ok y c.w ∧ RelV c h x y := by
 obtain ⟨F, hF⟩ := hc
 have hF' : ∀ m, m < e.cs.length → c.w.cell? ⟨b, o + m, none⟩ = some (F m) ∧ RelV c h (nth e.cs m) (F m) := fun m hm => by
  have := hF m (nth e.cs m) (by simp [nth, hm])
  exact this
 have hA : ∀ n, j + n ≤ e.cs.length → (loadCells ⟨b, o + j, none⟩ n).run P c.w = .ok ((List.range n).map fun m => F (j + m)).toArray c.w := fun n hn => by
  have h2 := run_loadCells_list (P := P) (w := c.w) ⟨b, o + j, none⟩ ((List.range n).map fun m => F (j + m)) (fun m v hv => by
   simp only [List.getElem?_map, Option.map_eq_some_iff] at hv
   obtain ⟨m', hm', rfl⟩ := hv
   have hlt := (List.getElem?_eq_some_iff.1 hm').1
   have heq := (List.getElem?_eq_some_iff.1 hm').2
   simp at hlt heq
   subst heq
   have := (hF' (j + m) (by omega)).1
   rw [Addr.add_lit]
   simpa [Nat.add_assoc] using this)
  simpa using h2
 have ha := run_isAgg hT ht c.w
 have hsz := run_size hT ht c.w
 unfold partF at hp
 by_cases hg : i.agg = true
 ·rw [if_pos hg] at hp
  rw [hg] at ha
  by_cases hj : j = 0 ∧ i.size = sz
  ·rw [if_pos hj] at hp
   obtain ⟨rfl, hj⟩ := hj
   cases e with
   | agg l =>
    injection hp with h1 h2 h3
    subst h1 h2 h3
    have hq : l.length = sz := hs
    simp only [AV.cs] at hs hF' hA
    refine ⟨rfl, .agg ((List.range i.size).map fun m => F (0 + m)).toArray, ?_, .agg _ _ (by simp; omega) fun m x y hx hy => ?_⟩
    ·simp only [loadVar, Sem.run_bind, ha, Result.andThen_ok, if_true, hsz, hA i.size (by omega), Sem.run_pure]
    ·have hml := (List.getElem?_eq_some_iff.1 hx).1
     have := (hF' m hml).2
     simp [nth, hx] at this
     simp only [List.getElem?_toArray, List.getElem?_map, Option.map_eq_some_iff] at hy
     obtain ⟨m', hm', rfl⟩ := hy
     have heq := (List.getElem?_eq_some_iff.1 hm').2
     simp at heq
     subst heq
     simpa using this
   | _ => injection hp with h1 h2 h3; subst h1; cases hq
  ·rw [if_neg hj] at hp
   injection hp with h1 h2 h3
   subst h1 h2 h3
   refine ⟨rfl, .agg ((List.range i.size).map fun m => F (j + m)).toArray, ?_, .agg _ _ (by simp; omega) fun m x y hx hy => ?_⟩
   ·simp only [loadVar, Sem.run_bind, ha, Result.andThen_ok, if_true, hsz, hA i.size hq, Sem.run_pure]
   ·rw [List.getElem?_take] at hx
    split at hx
    ·rename_i hm
     rw [List.getElem?_drop] at hx
     have hml := (List.getElem?_eq_some_iff.1 hx).1
     have := (hF' (j + m) hml).2
     simp [nth, hx] at this
     simp only [List.getElem?_toArray, List.getElem?_map, Option.map_eq_some_iff] at hy
     obtain ⟨m', hm', rfl⟩ := hy
     have heq := (List.getElem?_eq_some_iff.1 hm').2
     simp at heq
     subst heq
     exact this
    ·cases hx
 ·rw [if_neg hg] at hp
  have hg' : i.agg = false := by simpa using hg
  rw [hg'] at ha
  injection hp with h1 h2 h3
  subst h1 h2 h3
  obtain ⟨hcell, hrel⟩ := hF' j hq
  refine ⟨rfl, F j, ?_, hrel⟩
  simp [loadVar, ha, load, Sem.run, hcell]
theorem ran_load {ρ : Operand → Value} {o : Oper} {t : Nat} {A : Operand} {i : TI} {x a : AV} {p : Prop} {us : List (Nat × Ob)} (hT : TyOk P T) (ho : o.op = .load t A) (ht : T t = some i) (hh : RelH c h) (ha : RelV c h a (ρ A)) (hp : loadF i h a = .out p x us) (hq : p) :
  Ran P c h (execOp ρ o) x (ups us h) := by
 have key : ∀ b o', ρ A = .pointer (some ⟨b, o', none⟩) → ∀ y, (loadVar t ⟨b, o', none⟩).run P c.w = .ok y c.w → RelV c h x y → Ran P c h (execOp ρ o) x h := fun b o' hA y hr hx =>
  .val (by simp [execOp, ho, Instr.loadAt, hA, Instr.sureAddr, hr]) hh hx
 cases a with
 | ref r g k j =>
  simp only [loadF] at hp
  split at hp
  ·rename_i g' sz es hr
   cases hpp : partF i sz (nth es k) j with
   | out p' x' us' =>
    rw [hpp] at hp
    simp only [Rs.also] at hp
    injection hp with h1 h2 h3
    subst h1 h2 h3
    obtain ⟨⟨rfl, hk⟩, hp'⟩ := hq
    obtain ⟨hy, hs, hc⟩ := CellsAt.of_ref hh hr hk ha
    obtain ⟨rfl, y, hrun, hrel⟩ := run_part hT ht hs hc hpp hp'
    exact key _ _ hy y hrun hrel
   | _ => rw [hpp] at hp; cases hp
  ·cases hp
 | isp f sz es k j =>
  simp only [loadF] at hp
  cases hpp : partF i sz (nth es k) j with
  | out p' x' us' =>
   rw [hpp] at hp
   simp only [Rs.also] at hp
   injection hp with h1 h2 h3
   subst h1 h2 h3
   obtain ⟨hk, hp'⟩ := hq
   obtain ⟨b, o', hy, hs, hc⟩ := CellsAt.of_isp hk ha
   obtain ⟨rfl, y, hrun, hrel⟩ := run_part hT ht hs hc hpp hp'
   exact key _ _ hy y hrun hrel
  | _ => rw [hpp] at hp; cases hp
 | _ => cases hp
end
end Go.Proofs.YthblfhgofopcaaaGreat

namespace Go.Proofs.YthblfhgofopcaaaGreat
open Go.RowKit
variable [DM]
section
variable {P : Program} {T : Tys} {c : Cx} {h : HF}
theorem set_obj (hh : RelH c h) {r g g' sz : Nat} {es es' : List AV} {cs cs' : Array Value} {ty : Nat} (hr : h r = .arr g sz es) (hl : c.rl r = true) (hcs : c.w.heap[c.bl r]? = some (.cells cs ty (0, 0))) (hsz : cs'.size = cs.size) (hg : g ≤ g')
  (h1 : es'.length * sz ≤ cs'.size) (h2 : ∀ (i : Nat) (e : AV), es'[i]? = some e → e.cs.length = sz)
  (h3 : ∀ (i : Nat) (e : AV) (j : Nat) (x : AV), es'[i]? = some e → e.cs[j]? = some x → ∃ y, cs'[i * sz + j]? = some y ∧ RelV c h x y)
  (w' : World) (hw : ∀ b, b ≠ c.bl r → w'.heap[b]? = c.w.heap[b]?) (hw2 : w'.heap[c.bl r]? = some (.cells cs' ty (0, 0))) (o1 : w'.os = c.w.os) (o2 : w'.tape = c.w.tape) (o3 : w'.output = c.w.output) (o4 : w'.heap.size = c.w.heap.size) (o5 : w'.drawn = c.w.drawn) :
  let c' : Cx := { c with w := w' }
  let h' : HF := ups [(r, .arr g' sz es')] h
  Keep c h c' h' ∧ RelH c' h' ∧ h' r = .arr g' sz es' := by
 intro c' h'
 have e1 : h' r = .arr g' sz es' := by simp [h', ups]
 have e2 : ∀ q, q ≠ r → h' q = h q := fun q hq => by simp [h', ups, hq]
 have other : ∀ q g1 s1 es1, q ≠ r → h q = .arr g1 s1 es1 → c.rl q = true → c.bl q ≠ c.bl r := fun q g1 s1 es1 hq h4 h5 h6 => hq (hh.inj q r g1 g s1 sz es1 es h4 hr h5 hl h6)
 have K : Keep c h c' h' := {
  dr := .inr (Nat.le_of_eq o5.symm)
  os := o1
  tape := o2
  output := o3
  size := Nat.le_of_eq o4.symm
  blk := fun b _ hm => hw b fun he => hm ⟨r, g, sz, es, hr, hl, he.symm⟩
  dd := fun q hq => by
   have : q ≠ r := fun he => by rw [he, hr] at hq; cases hq
   rw [e2 q this]; exact hq
  ar := fun q g1 s1 es1 hq => by
   by_cases he : q = r
   ·subst he
    rw [hr] at hq
    injection hq with q1 q2 q3
    subst q1 q2 q3
    exact .inr ⟨g', es', e1, hg, fun _ => ⟨rfl, rfl, fun _ cs1 t1 h5 => by
     rw [hcs] at h5
     injection h5 with h5
     injection h5 with h5 h6
     subst h5 h6
     exact ⟨cs', hw2, hsz⟩⟩⟩
   ·exact .inr ⟨g1, es1, by rw [e2 q he]; exact hq, Nat.le_refl _, fun _ => ⟨rfl, rfl, fun h5 cs1 t1 h6 => ⟨cs1, by rw [← h6]; exact hw _ (other q g1 s1 es1 he hq h5), rfl⟩⟩⟩
  fr := fun q g1 s1 es1 hq h5 => by
   by_cases he : q = r
   ·subst he
    rw [e1] at hq
    injection hq with q1 q2 q3
    subst q2
    exact .inr ⟨g, es, hr, hl, rfl⟩
   ·exact .inr ⟨g1, es1, by rw [← e2 q he]; exact hq, h5, rfl⟩
  okT := rfl
  okF := rfl
  n0 := rfl }
 refine ⟨K, ⟨?_, ?_, ?_⟩, e1⟩
 ·intro q g1 s1 es1 hq h5
  by_cases he : q = r
  ·subst he
   rw [e1] at hq
   injection hq with q1 q2 q3
   subst q2 q3
   exact ⟨cs', ty, hw2, h1, h2, fun i e j x he hj => by
    obtain ⟨y, hy, hv⟩ := h3 i e j x he hj
    exact ⟨y, hy, hv.ext K.ext⟩⟩
  ·rw [e2 q he] at hq
   obtain ⟨cs1, t1, a1, a2, a3, a4⟩ := hh.ar q g1 s1 es1 hq h5
   exact ⟨cs1, t1, by rw [← a1]; exact hw _ (other q g1 s1 es1 he hq h5), a2, a3, fun i e j x he hj => by
    obtain ⟨y, hy, hv⟩ := a4 i e j x he hj
    exact ⟨y, hy, hv.ext K.ext⟩⟩
 ·intro q g1 s1 es1 hq h5
  by_cases he : q = r
  ·subst he; exact absurd h5 (by simp [c', hl])
  ·rw [e2 q he] at hq; exact hh.em q g1 s1 es1 hq h5
 ·intro q q' g1 g2 s1 s2 es1 es2 hq hq' h5 h6 hb
  by_cases he : q = r <;> by_cases he' : q' = r
  ·rw [he, he']
  ·rw [e2 q' he'] at hq'
   exact absurd hb (by subst he; exact fun hb => other q' g2 s2 es2 he' hq' h6 hb.symm)
  ·rw [e2 q he] at hq
   exact absurd hb (by subst he'; exact other q g1 s1 es1 he hq h5)
  ·rw [e2 q he] at hq; rw [e2 q' he'] at hq'
   exact hh.inj q q' g1 g2 s1 s2 es1 es2 hq hq' h5 h6 hb
theorem splice_lt {α : Type} {l vs : List α} {o m : Nat} (hm : m < o) (ho : o ≤ l.length) : (l.take o ++ vs ++ l.drop (o + vs.length))[m]? = l[m]? := by
 rw [List.append_assoc, List.getElem?_append_left (by simp; omega), List.getElem?_take, if_pos hm]
theorem splice_mid {α : Type} {l vs : List α} {o m : Nat} (hm : o ≤ m) (h2 : m < o + vs.length) (ho : o ≤ l.length) : (l.take o ++ vs ++ l.drop (o + vs.length))[m]? = vs[m - o]? := by
 rw [List.append_assoc, List.getElem?_append_right (by simp; omega), List.getElem?_append_left (by simp; omega)]
 congr 1
 simp; omega
theorem splice_gt {α : Type} {l vs : List α} {o m : Nat} (h2 : o + vs.length ≤ m) (ho : o ≤ l.length) : (l.take o ++ vs ++ l.drop (o + vs.length))[m]? = l[m]? := by
 rw [List.append_assoc, List.getElem?_append_right (by simp; omega), List.getElem?_append_right (by simp; omega), List.getElem?_drop]
 congr 1
 simp; omega
theorem setRow_facts {w : World} {g ty : Nat} {cur cs' : Array Value} (hg : w.heap[g]? = some (.cells cur ty (0, 0))) :
  (∀ b, b ≠ g → (w.setRow g cs').heap[b]? = w.heap[b]?) ∧ (w.setRow g cs').heap[g]? = some (.cells cs' ty (0, 0)) ∧ (w.setRow g cs').os = w.os ∧ (w.setRow g cs').tape = w.tape ∧ (w.setRow g cs').output = w.output ∧ (w.setRow g cs').heap.size = w.heap.size := by
 refine ⟨fun b hb => ?_, setRow_heap w g cur cs' ty (0, 0) hg, rfl, rfl, rfl, by simp [World.setRow]⟩
 simp [World.setRow, Array.getElem?_modify, Ne.symm hb]
theorem ran_store {ρ : Operand → Value} {o : Oper} {t : Nat} {A X : Operand} {i : TI} {x x' a : AV} {p : Prop} {us : List (Nat × Ob)} (hT : TyOk P T) (ho : o.op = .store t A X) (ht : T t = some i) (hh : RelH c h) (ha : RelV c h a (ρ A)) (hx : RelV c h x (ρ X)) (hp : storeF i h x a = .out p x' us) (hq : p) :
  Ran P c h (execOp ρ o) x' (ups us h) := by
 cases a with
 | ref r g k j =>
  simp only [storeF] at hp
  split at hp
  ·rename_i g' sz es hr
   injection hp with h1 h2 h3
   subst h1 h2 h3
   obtain ⟨rfl, hk, hn, hone, hb, hw⟩ := hq
   obtain ⟨hy, hs, hc⟩ := CellsAt.of_ref hh hr hk ha
   have hl : c.rl r = true := by
    cases hl : c.rl r with
    | true => rfl
    | false => rw [hh.em r g' sz es hr hl] at hk; simp at hk
   obtain ⟨cs, ty, a1, a2, a3, a4⟩ := hh.ar r g' sz es hr hl
   obtain ⟨b1, b2⟩ := cells_rel hb hx
   have hone' : ∀ v ∈ (ρ X).cells.toList, v.oneCell' = true := fun v hv => by
    obtain ⟨m, hm, hm2⟩ := List.mem_iff_getElem.1 hv
    have hm' : m < x.cs.length := by rw [← b1]; simpa using hm
    obtain ⟨v', hv', hrel⟩ := b2 m (x.cs[m]) (by simp [hm'])
    have : v' = v := by
     rw [← hm2]
     have := (Array.getElem?_eq_some_iff.1 hv').2
     rw [← this]; simp
    rw [← this]
    exact hrel.oneCell (hone _ (List.getElem_mem hm'))
   have hj : j + i.size ≤ sz := by rcases hw with ⟨h1, h2⟩ | h1; omega; exact h1.2
   have hks : k * sz + sz ≤ es.length * sz := by rw [← Nat.succ_mul]; exact Nat.mul_le_mul_right _ hk
   have hfit : k * sz + j + 0 + (ρ X).cells.toList.length ≤ cs.size := by simp [b1]; omega
   have hst := run_storeCells_at P (c.bl r) (k * sz + j) ty (ρ X).cells.toList 0 cs c.w a1 hfit hone'
   simp only [Nat.add_zero] at hst
   have hz2 : (ρ X).cells.toList.length = i.size := by simp [b1, hn]
   have htl : cs.toList.length = cs.size := by simp
   generalize hcs' : (cs.toList.take (k * sz + j) ++ (ρ X).cells.toList ++ cs.toList.drop (k * sz + j + (ρ X).cells.toList.length)).toArray = cs' at hst
   have hsz : cs'.size = cs.size := by rw [← hcs']; simp [b1] at hfit ⊢; omega
   have hget : ∀ m : Nat, cs'[m]? = (cs.toList.take (k * sz + j) ++ (ρ X).cells.toList ++ cs.toList.drop (k * sz + j + (ρ X).cells.toList.length))[m]? := fun m => by rw [← hcs', List.getElem?_toArray]
   have hgt : ∀ m : Nat, cs[m]? = cs.toList[m]? := fun m => by simp
   obtain ⟨w1, w2, w3, w4, w5, w6⟩ := setRow_facts (cs' := cs') a1
   have hne : es[k]? = some (nth es k) := by simp [nth, hk]
   have hE : (setE (nth es k) x sz i.size j).cs.length = sz ∧ ∀ m u, (setE (nth es k) x sz i.size j).cs[m]? = some u → (m < j ∧ (nth es k).cs[m]? = some u) ∨ (j ≤ m ∧ m < j + i.size ∧ x.cs[m - j]? = some u) ∨ (j + i.size ≤ m ∧ (nth es k).cs[m]? = some u) := by
    unfold setE
    by_cases hw' : j = 0 ∧ i.size = sz
    ·rw [if_pos hw']
     obtain ⟨rfl, hw'⟩ := hw'
     refine ⟨by omega, fun m u hu => .inr (.inl ⟨Nat.zero_le _, ?_, by simpa using hu⟩)⟩
     have := (List.getElem?_eq_some_iff.1 hu).1
     omega
    ·rw [if_neg hw']
     obtain ⟨he, _⟩ := hw.resolve_left hw'
     obtain ⟨l, he⟩ : ∃ l, nth es k = .agg l := ⟨_, aggB_spec he⟩
     rw [he] at hs ⊢
     have hs' : l.length = sz := hs
     change (l.take j ++ x.cs ++ l.drop (j + i.size)).length = sz ∧ ∀ (m : Nat) (u : AV), (l.take j ++ x.cs ++ l.drop (j + i.size))[m]? = some u → (m < j ∧ l[m]? = some u) ∨ (j ≤ m ∧ m < j + i.size ∧ x.cs[m - j]? = some u) ∨ (j + i.size ≤ m ∧ l[m]? = some u)
     refine ⟨by simp; omega, fun m u hu => ?_⟩
     by_cases m1 : m < j
     ·exact .inl ⟨m1, by rw [← hn, splice_lt m1 (by omega)] at hu; exact hu⟩
     ·by_cases m2 : m < j + i.size
      ·exact .inr (.inl ⟨by omega, m2, by rw [← hn, splice_mid (by omega) (by omega) (by omega)] at hu; exact hu⟩)
      ·exact .inr (.inr ⟨by omega, by rw [← hn, splice_gt (by omega) (by omega)] at hu; exact hu⟩)
   obtain ⟨K, H, e1⟩ := set_obj hh (g' := g') (es' := es.set k (setE (nth es k) x sz i.size j)) (cs' := cs') hr hl a1 hsz (Nat.le_refl _) (by simp; omega)
    (fun m e he => by
     rw [List.getElem?_set] at he
     split at he
     ·rename_i hkm
      subst hkm
      simp at he
      rw [← he]; exact hE.1
     ·exact a3 m e he)
    (fun m e j' u he hj' => by
     rw [List.getElem?_set] at he
     split at he
     ·rename_i hkm
      subst hkm
      simp at he
      subst he
      have hlt : j' < sz := by rw [← hE.1]; exact (List.getElem?_eq_some_iff.1 hj').1
      rcases hE.2 j' u hj' with ⟨m1, hu⟩ | ⟨m1, m2, hu⟩ | ⟨m1, hu⟩
      ·obtain ⟨y, hy, hv⟩ := a4 k _ j' u hne hu
       exact ⟨y, by rw [hget, splice_lt (by omega) (by omega), ← hgt]; exact hy, hv⟩
      ·obtain ⟨y, hy, hv⟩ := b2 _ u hu
       refine ⟨y, ?_, hv⟩
       rw [hget, splice_mid (by omega) (by omega) (by omega)]
       rw [show k * sz + j' - (k * sz + j) = j' - j by omega]
       simpa using hy
      ·obtain ⟨y, hy, hv⟩ := a4 k _ j' u hne hu
       exact ⟨y, by rw [hget, splice_gt (by omega) (by omega), ← hgt]; exact hy, hv⟩
     ·rename_i hkm
      obtain ⟨y, hy, hv⟩ := a4 m e j' u he hj'
      refine ⟨y, ?_, hv⟩
      have hlt : j' < sz := by rw [← a3 m e he]; exact (List.getElem?_eq_some_iff.1 hj').1
      rw [hget]
      rcases Nat.lt_or_gt_of_ne hkm with h1 | h1
      ·have : k * sz + sz ≤ m * sz := by rw [← Nat.succ_mul]; exact Nat.mul_le_mul_right _ h1
       rw [splice_gt (by omega) (by omega), ← hgt]; exact hy
      ·have : m * sz + sz ≤ k * sz := by rw [← Nat.succ_mul]; exact Nat.mul_le_mul_right _ h1
       rw [splice_lt (by omega) (by omega), ← hgt]; exact hy)
    (c.w.setRow (c.bl r) cs') w1 w2 w3 w4 w5 w6 rfl
   refine ⟨undef, _, .inr ⟨?_, rfl⟩, K, H, .any _⟩
   have hsz2 := run_size hT ht c.w
   simp only [execOp, ho, Instr.storeAt, hy, Instr.sureAddr, Sem.run_bind, Sem.run_pure, Result.andThen_ok, storeVar, hsz2]
   rw [if_neg (by simp [b1, hn])]
   rw [hst]
   rfl
  ·cases hp
 | _ => cases hp
end
end Go.Proofs.YthblfhgofopcaaaGreat
