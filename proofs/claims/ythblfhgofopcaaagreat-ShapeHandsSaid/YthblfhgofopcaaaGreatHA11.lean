/-
  Parts of the proof: VmS, VmU.
-/
import Derived.Test.YthblfhgofopcaaaGreatHA10
set_option linter.all false
namespace Go.Proofs.YthblfhgofopcaaaGreat
open Go.RowKit
variable [DM]
def tops : AV → List Nat
 | .ref r _ _ _ => [r]
 | .rsl r _ _ _ => [r]
 | _ => []
section
variable {T : Tys} {g g' : Operand → AV} {h h' : HF} {nm : Nat}
theorem loadF_congr {i : TI} {x : AV} (hx : ∀ r ∈ tops x, h r = h' r) : loadF i h x = loadF i h' x := by
 cases x <;> simp_all [loadF, tops]
theorem storeF_congr {i : TI} {x y : AV} (hx : ∀ r ∈ tops x, h r = h' r) : storeF i h y x = storeF i h' y x := by
 cases x <;> simp_all [storeF, tops]
theorem nilCheckF_congr {x : AV} (hx : ∀ r ∈ tops x, h r = h' r) : nilCheckF h x = nilCheckF h' x := by
 cases x <;> simp_all [nilCheckF, tops]
theorem isNilF_congr {x : AV} (hx : ∀ r ∈ tops x, h r = h' r) : isNilF h x = isNilF h' x := by
 unfold isNilF
 split <;> simp_all [tops]
theorem binF_congr {op : BinOp} {t : Option TI} {x y : AV} (hx : ∀ r ∈ tops x, h r = h' r) : binF T h op t x y = binF T h' op t x y := by
 unfold binF
 split
 ·rfl
 ·rfl
 ·rw [isNilF_congr hx]
 ·rfl
 ·rfl
theorem fieldPtrF_congr {s : Option TI} {f : Nat} {x : AV} (hx : ∀ r ∈ tops x, h r = h' r) : fieldPtrF T h s f x = fieldPtrF T h' s f x := by
 cases x <;> simp_all [fieldPtrF, tops]
theorem indexPtrF_congr {t : Option TI} {x i : AV} (hx : ∀ r ∈ tops x, h r = h' r) : indexPtrF T h t x i = indexPtrF T h' t x i := by
 cases x <;> simp_all [indexPtrF, tops]
theorem lenF_congr {t : Option TI} {x : AV} (hx : ∀ r ∈ tops x, h r = h' r) : lenF h t x = lenF h' t x := by
 unfold lenF
 split <;> simp_all [tops]
theorem readF_congr {sz : Nat} {x : AV} (hx : ∀ r ∈ tops x, h r = h' r) : readF h sz x = readF h' sz x := by
 unfold readF
 split <;> simp_all [tops]
theorem sliceF_congr {t : Option TI} {x : AV} {lo hi mx : Option AV} (hx : ∀ r ∈ tops x, h r = h' r) : sliceF T h t x lo hi mx nm = sliceF T h' t x lo hi mx nm := by
 cases x
 case rsl r g o n => have : h r = h' r := hx r (by simp [tops]); simp only [sliceF, this]
 case v y =>
  unfold sliceF
  (repeat' split) <;> first | rfl | simp_all
 all_goals rfl
theorem appendF_congr {t tx : Option TI} {a b : AV} (ha : ∀ r ∈ tops a, h r = h' r) (hb : ∀ r ∈ tops b, h r = h' r) : appendF T h t tx a b nm = appendF T h' t tx a b nm := by
 have e : ∀ sz, readF h sz b = readF h' sz b := fun sz => readF_congr hb
 unfold appendF
 simp only [e]
 cases a
 case rsl r g o n => have : h r = h' r := ha r (by simp [tops]); simp only [this]
 case v y =>
  (repeat' split) <;> first | rfl | simp_all
 all_goals rfl
theorem copyF_congr {t : Option TI} {a b : AV} (ha : ∀ r ∈ tops a, h r = h' r) (hb : ∀ r ∈ tops b, h r = h' r) : copyF T h t a b = copyF T h' t a b := by
 have e : ∀ sz, readF h sz b = readF h' sz b := fun sz => readF_congr hb
 unfold copyF
 simp only [e]
 cases a
 case rsl r g o n => have : h r = h' r := ha r (by simp [tops]); simp only [this]
 all_goals rfl
theorem map_op {l : List Operand} (hg : ∀ X ∈ l, g X = g' X) : l.map g = l.map g' := List.map_congr_left hg
def opdT : Op → List Operand
 | .move _ => []
 | .assign _ => []
 | .pick _ _ _ => []
 | .box _ _ => []
 | .build _ _ => []
 | .buildSlice _ _ _ => []
 | .load _ x => [x]
 | .store _ a _ => [a]
 | .nilCheck x => [x]
 | .binOp _ _ x _ _ => [x]
 | .unOp _ _ _ => []
 | .convert _ _ _ => []
 | .fieldAddr _ x _ => [x]
 | .field _ _ _ => []
 | .indexAddr _ x _ => [x]
 | .index _ _ _ => []
 | .extract _ _ => []
 | .slice _ x _ _ _ => [x]
 | .call ⟨.builtin _, as, _⟩ => as.toList
 | .call ⟨.value f, as, _⟩ => f :: as.toList
 | o => o.operands.toList
theorem opdT_sub {op : Op} {X : Operand} (hX : X ∈ opdT op) : X ∈ op.operands := by
 cases op <;> simp only [opdT] at hX <;> try (first | (simpa using hX; done) | (simpa [Op.operands] using hX; done) | (simp only [List.mem_cons, List.not_mem_nil, or_false] at hX; subst hX; simp [Op.operands]; done))
 case call cl =>
  obtain ⟨callee, args, ts⟩ := cl
  cases callee with
  | builtin b => simp only [opdT] at hX; simp only [Op.operands, Call.operands]; simpa using hX
  | value f => simp only [opdT] at hX; simp only [Op.operands, Call.operands]; simpa using hX
  | invoke r m => simpa [opdT] using hX
theorem opF_congr {op : Op} (hg : ∀ X ∈ op.operands, g X = g' X) (hh : ∀ X ∈ opdT op, ∀ r ∈ tops (g X), h r = h' r) : opF T g h nm op = opF T g' h' nm op := by
 have hk : ∀ X, X ∈ opdT op → ∀ r ∈ tops (g' X), h r = h' r := fun X hX => by rw [← hg X (opdT_sub hX)]; exact hh X hX
 have one : ∀ X, X ∈ op.operands → g X = g' X ∧ True := fun X hX => ⟨hg X hX, trivial⟩
 clear hg hh
 cases op <;> simp only [Op.operands] at one <;> simp only [opF]
 case move X => rw [(one X (by simp)).1]
 case assign X => rw [(one X (by simp)).1]
 case pick a b c => rw [(one a (by simp)).1, (one b (by simp)).1, (one c (by simp)).1]
 case box t X => rw [(one X (by simp)).1]
 case build t ps =>
  have : (ps.toList.map fun y => (y.1, g y.2)) = ps.toList.map fun y => (y.1, g' y.2) := List.map_congr_left fun y hy => by rw [(one y.2 (by simp only [List.mem_toArray, List.mem_map]; exact ⟨y, hy, rfl⟩)).1]
  rw [this]
 case buildSlice t n ps =>
  have : (ps.toList.map fun y => (y.1, g y.2)) = ps.toList.map fun y => (y.1, g' y.2) := List.map_congr_left fun y hy => by rw [(one y.2 (by simp only [List.mem_toArray, List.mem_map]; exact ⟨y, hy, rfl⟩)).1]
  rw [this]
 case load t a =>
  have e := (one a (by simp)).1
  have k := hk a (by simp [opdT])
  rw [e]
  split
  ·exact loadF_congr k
  ·rfl
 case store t a x =>
  have e := (one a (by simp)).1
  have k := hk a (by simp [opdT])
  rw [e, (one x (by simp)).1]
  split
  ·exact storeF_congr k
  ·rfl
 case nilCheck X =>
  have e := (one X (by simp)).1
  have k := hk X (by simp [opdT])
  rw [e]; exact nilCheckF_congr k
 case binOp o t x y _ =>
  have e := (one x (by simp)).1
  have k := hk x (by simp [opdT])
  rw [e, (one y (by simp)).1]; exact binF_congr k
 case unOp _ _ X => rw [(one X (by simp)).1]
 case convert _ _ X => rw [(one X (by simp)).1]
 case makeFunc fn first cap =>
  rw [map_op (g := g) (g' := g') fun X hX => (one X (by simp at hX; simp [hX])).1, map_op (g := g) (g' := g') fun X hX => (one X (by simp at hX; simp [hX])).1]
 case makeSlice t l cp => rw [(one l (by simp)).1, (one cp (by simp)).1]
 case slice t x lo hi mx =>
  have e := (one x (by simp)).1
  have k := hk x (by simp [opdT])
  have e1 : lo.map g = lo.map g' := by cases lo <;> simp_all
  have e2 : hi.map g = hi.map g' := by cases hi <;> simp_all
  have e3 : mx.map g = mx.map g' := by cases mx <;> simp_all
  rw [e, e1, e2, e3]; exact sliceF_congr k
 case fieldAddr s x f =>
  have e := (one x (by simp)).1
  have k := hk x (by simp [opdT])
  rw [e]; exact fieldPtrF_congr k
 case field s x f => rw [(one x (by simp)).1]
 case indexAddr t x i =>
  have e := (one x (by simp)).1
  have k := hk x (by simp [opdT])
  rw [e, (one i (by simp)).1]; exact indexPtrF_congr k
 case index t x i => rw [(one x (by simp)).1, (one i (by simp)).1]
 case extract x i => rw [(one x (by simp)).1]
 case call cl =>
  obtain ⟨callee, args, ts⟩ := cl
  have hb : ∀ X, X ∈ args.toList → g X = g' X ∧ True := fun X hX => one X (by simp only [Call.operands]; simp at hX; simp [hX])
  cases callee with
  | builtin b =>
   have ha : ∀ X, X ∈ args.toList → g X = g' X ∧ ∀ r ∈ tops (g' X), h r = h' r := fun X hX => ⟨(hb X hX).1, hk X (by simpa only [opdT] using hX)⟩
   cases b <;> simp only [callF]
   case len =>
    split
    ·rename_i a t l h1 h2
     obtain ⟨e, k⟩ := ha a (by simp [h1])
     rw [e]; exact lenF_congr k
    ·rfl
   case append =>
    split
    ·rename_i a b t tx h1 h2
     obtain ⟨e, k⟩ := ha a (by simp [h1])
     obtain ⟨e', k'⟩ := ha b (by simp [h1])
     rw [e, e']; exact appendF_congr k k'
    ·rfl
   case cap =>
    split
    ·rename_i a t l h1 h2
     rw [(ha a (by simp [h1])).1]
    ·rfl
   case copy =>
    split
    ·rename_i a b t l h1 h2
     obtain ⟨e, k⟩ := ha a (by simp [h1])
     obtain ⟨e', k'⟩ := ha b (by simp [h1])
     rw [e, e']; exact copyF_congr k k'
    ·rfl
   case min =>
    split
    ·rename_i a b h1
     rw [(ha a (by simp [h1])).1, (ha b (by simp [h1])).1]
    ·rfl
   case max =>
    split
    ·rename_i a b h1
     rw [(ha a (by simp [h1])).1, (ha b (by simp [h1])).1]
    ·rfl
  | value f =>
   simp only [callF]
   rw [(one f (by simp [Call.operands])).1, map_op (g := g) (g' := g') fun X hX => (hb X hX).1]
  | invoke r m => rfl
end
def effB : Op → Bool
 | .store _ _ _ => true
 | .call ⟨.builtin .len, _, _⟩ => false
 | .call _ => true
 | _ => false
def Bare (nm : Nat) (r : Rs) : Prop := match r with
 | .bad => True
 | .out _ _ us => ∀ u ∈ us, u.1 = nm
 | .call _ _ => False
section
variable {T : Tys} {g : Operand → AV} {h : HF} {nm : Nat}
theorem bare_pure (x : AV) : Bare nm (.pure x) := fun u hu => by cases hu
theorem bare_nil (p : Prop) (x : AV) : Bare nm (.out p x []) := fun u hu => by cases hu
theorem bare_new (p : Prop) (x : AV) (ob : Ob) : Bare nm (.out p x [(nm, ob)]) := fun u hu => by simp at hu; rw [hu]
theorem bare_part (i : TI) (sz : Nat) (e : AV) (j : Nat) (q : Prop) : Bare nm (.also q (partF i sz e j)) ∧ Bare nm (partF i sz e j) := by
 unfold partF
 (repeat' split) <;> exact ⟨by first | trivial | exact bare_nil _ _, by first | trivial | exact bare_nil _ _⟩
theorem bare_op {op : Op} (he : effB op = false) : Bare nm (opF T g h nm op) := by
 cases op <;> simp only [opF] <;> try trivial
 case move => exact bare_pure _
 case assign => exact bare_pure _
 case pick => unfold pickF; (repeat' split) <;> first | trivial | exact bare_pure _
 case alloc => split <;> first | trivial | exact bare_new _ _ _
 case box => exact bare_new _ _ _
 case build => unfold buildF; (repeat' split) <;> first | trivial | exact bare_nil _ _
 case buildSlice => unfold buildSliceF; (repeat' split) <;> first | trivial | exact bare_new _ _ _
 case load => unfold loadF; (repeat' split) <;> first | trivial | exact (bare_part _ _ _ _ _).1
 case nilCheck => unfold nilCheckF; (repeat' split) <;> first | trivial | exact bare_nil _ _ | exact bare_pure _
 case binOp =>
  unfold binF intF
  (repeat' split) <;> first | trivial | exact bare_nil _ _ | exact bare_pure _
 case unOp => unfold unF; (repeat' split) <;> first | trivial | exact bare_nil _ _ | exact bare_pure _
 case convert => unfold convF; (repeat' split) <;> first | trivial | exact bare_nil _ _ | exact bare_pure _
 case makeFunc => unfold makeFuncF; (repeat' split) <;> first | trivial | exact bare_nil _ _ | exact bare_pure _
 case makeSlice => unfold makeSliceF; (repeat' split) <;> first | trivial | exact bare_new _ _ _
 case slice => unfold sliceF; (repeat' split) <;> first | trivial | exact bare_nil _ _ | exact bare_pure _ | exact bare_new _ _ _
 case fieldAddr => unfold fieldPtrF; (repeat' split) <;> first | trivial | exact bare_nil _ _ | exact bare_pure _
 case field => unfold fieldValF; (repeat' split) <;> first | trivial | exact bare_nil _ _ | exact bare_pure _
 case indexAddr => unfold indexPtrF; (repeat' split) <;> first | trivial | exact bare_nil _ _ | exact bare_pure _
 case index => unfold indexF; (repeat' split) <;> first | trivial | exact bare_nil _ _ | exact bare_pure _
 case extract => unfold extractF; (repeat' split) <;> first | trivial | exact bare_nil _ _ | exact bare_pure _
 case call cl =>
  obtain ⟨callee, args, ts⟩ := cl
  cases callee with
  | builtin b =>
   cases b <;> simp only [effB] at he <;> try cases he
   simp only [callF]
   unfold lenF
   (repeat' split) <;> first | trivial | exact bare_nil _ _ | exact bare_pure _
  | _ => cases he
end
end Go.Proofs.YthblfhgofopcaaaGreat

namespace Go.Proofs.YthblfhgofopcaaaGreat
open Go.RowKit
variable [DM]
abbrev TF := Nat → AV
def evF (f : TF) : Operand → AV
 | .tmp t => f t
 | .const x => .v x
 | .global n => .v (.pointer (some ⟨n, 0, none⟩))
 | .func k => .clo k []
theorem evO_eq (tm : List (Nat × AV)) : evO tm = evF (lk tm .any) := by funext X; cases X <;> rfl
def gdG (ops : List Oper) (f : TF) : Option (Nat × Bool) → Gd
 | none => .run
 | some (i, want) => match ops[i]? with
  | some o => match o.dst with
   | some t => match f t with
    | .v (.bool b) => .ask b t want
    | .v (.tuple _) => .skip
    | _ => .bad
   | none => .skip
  | none => .skip
theorem gdF_eq (ops : List Oper) (tm : List (Nat × AV)) (g : Option (Nat × Bool)) : gdF ops tm g = gdG ops (lk tm .any) g := by
 cases g <;> rfl
def wan (ops : List Oper) (f : TF) (o : Oper) : Option Bool := match gdG ops f o.guard with
 | .run => some true
 | .skip => some false
 | .ask b _ want => some (b == want)
 | .bad => none
def putF (f : TF) (dst : Option Nat) (x : AV) : TF := match dst with
 | some d => fun t => if d = t then x else f t
 | none => f
theorem lk_putT (tm : List (Nat × AV)) (dst : Option Nat) (x : AV) : lk (putT tm dst x) .any = putF (lk tm .any) dst x := by
 cases dst with
 | none => rfl
 | some d => funext t; exact lk_upd tm .any d x t
theorem lk_same (tm : List (Nat × AV)) {t : Nat} {x : AV} (h : lk tm .any t = x) : lk (upd tm t x) .any = lk tm .any := by
 funext s
 rw [lk_upd]
 split
 ·rename_i hs; subst hs; exact h.symm
 ·rfl
structure RelS (c0 : Cx) (h0 : HF) (nt : Nat) (f : TF) (h : HF) (c : Cx) (a : Act) : Prop where
 kp : Keep c0 h0 c h
 hp : RelH c h
 sz : a.tmps.size = nt
 df : a.defers = []
 tm : ∀ t, RelV c h (f t) (a.tmps.getD t undef)
section
variable {P : Program} {T : Tys} {c0 c : Cx} {h0 h : HF} {nt : Nat} {f : TF} {a : Act}
theorem RelS.to {nx : Nat} {tm : List (Nat × AV)} {hp : Hl} (r : RelS c0 h0 nt (lk tm .any) (lk hp .nil) c a) : Rel c0 h0 nt ⟨nx, tm, hp⟩ c a := ⟨r.kp, r.hp, ⟨r.sz, r.df, r.tm⟩⟩
theorem RelS.ev (r : RelS c0 h0 nt f h c a) (X : Operand) : RelV c h (evF f X) (a.eval X) := by
 cases X with
 | tmp t => exact r.tm t
 | const x => exact .v x
 | global n => exact .v _
 | func f => exact .clo f [] #[] rfl fun i x y hx => by simp at hx
theorem RelS.put {c' : Cx} {h' : HF} {dst : Option Nat} {x : AV} {y : Value} (r : RelS c0 h0 nt f h c a) (k : Keep c h c' h') (hh : RelH c' h') (hx : RelV c' h' x y) (hd : dstB nt dst) : RelS c0 h0 nt (putF f dst x) h' c' (a.put dst y) := by
 cases dst with
 | none => exact ⟨r.kp.trans k, hh, r.sz, r.df, fun t => (r.tm t).ext k.ext⟩
 | some d =>
  have hd' : d < a.tmps.size := by rw [r.sz]; exact hd
  refine ⟨r.kp.trans k, hh, by simp [Act.put, r.sz], by simp [Act.put, r.df], fun t => ?_⟩
  simp only [putF, Act.put]
  by_cases h : d = t
  ·subst h
   rw [if_pos rfl]
   simp [Array.getD_eq_getD_getElem?, hd', hx]
  ·rw [if_neg h]
   have := (r.tm t).ext k.ext
   simpa [Array.getD_eq_getD_getElem?, Array.getElem?_setIfInBounds_ne h] using this
theorem RelS.less {f' : TF} (r : RelS c0 h0 nt f h c a) (hf : ∀ t, f' t = .any ∨ f' t = f t) : RelS c0 h0 nt f' h c a := ⟨r.kp, r.hp, r.sz, r.df, fun t => by
 rcases hf t with e | e <;> rw [e]
 ·exact .any _
 ·exact r.tm t⟩
theorem RelS.wanted {all : List Oper} {o : Oper} {b : Bool} (r : RelS c0 h0 nt f h c a) (hw : wan all f o = some b) : Region.wanted o (yielded all.toArray a.tmps) = b := by
 unfold wan gdG at hw
 unfold Region.wanted
 cases hgd : o.guard with
 | none => rw [hgd] at hw; injection hw with hw
 | some gw =>
  rw [hgd] at hw
  obtain ⟨i, want⟩ := gw
  simp only at hw ⊢
  unfold yielded
  cases ho : all[i]? with
  | none => rw [ho] at hw; simp at hw; subst hw; simp [ho]
  | some o' =>
   rw [ho] at hw
   simp only at hw
   cases hdst : o'.dst with
   | none => rw [hdst] at hw; simp at hw; subst hw; simp [ho, hdst]
   | some t =>
    rw [hdst] at hw
    simp only at hw
    have hv := r.tm t
    by_cases hlt : t < a.tmps.size
    ·have hat : a.tmps.getD t undef = a.tmps[t] := by simp [Array.getD_eq_getD_getElem?, hlt]
     rw [hat] at hv
     cases hb : f t with
     | v x =>
      rw [hb] at hv hw
      have := inv_v hv
      cases x with
      | bool b' =>
       simp only at hw
       injection hw with hw
       subst hw
       simp only [List.getElem?_toArray, ho, Option.bind_some, hdst, hlt, getElem?_pos, this]
       cases b' <;> cases want <;> rfl
      | tuple vs => simp only at hw; injection hw with hw; subst hw; simp only [List.getElem?_toArray, ho, Option.bind_some, hdst, hlt, getElem?_pos, this]; rfl
      | _ => cases hw
     | _ => rw [hb] at hw; cases hw
    ·have hat : a.tmps.getD t undef = undef := by simp [Array.getD_eq_getD_getElem?, hlt]
     rw [hat] at hv
     have hno : a.tmps[t]? = none := Array.getElem?_eq_none (Nat.le_of_not_lt hlt)
     cases hb : f t with
     | v x =>
      rw [hb] at hv hw
      have := inv_v hv
      cases x with
      | bool b => cases this
      | tuple vs => simp only at hw; injection hw with hw; subst hw; simp only [List.getElem?_toArray, ho, Option.bind_some, hdst, hno]; rfl
      | _ => cases hw
     | _ => rw [hb] at hw; cases hw
theorem exec_out (hT : TyOk P T) {o : Oper} {nm : Nat} {p : Prop} {x : AV} {us : List (Nat × Ob)} (r : RelS c0 h0 nt f h c a) (hr : opF T (evF f) h nm o.op = .out p x us) (hq : p) (hn : h nm = .nil) (hd : dstB nt o.dst)
  {Q : Exit → Act → World → Prop} {N : Act → World → Prop} (hK : ∀ y c', RelS c0 h0 nt (putF f o.dst x) (ups us h) c' (a.put o.dst y) → N (a.put o.dst y) c'.w) : o.wp P a c.w N Q := by
 obtain ⟨y, c', hrun, h1, h2, h3⟩ := ran_op hT r.hp r.ev hn hr hq
 have := r.put h1 h2 h3 hd
 unfold Oper.wp
 rcases hrun with hrun | ⟨hrun, rfl⟩
 ·rw [hrun]; exact hK y c' this
 ·rw [hrun]; exact hK undef c' this
end
def opdL : Op → List Operand
 | .move x => [x]
 | .assign x => [x]
 | .pick c a b => [c, a, b]
 | .box _ x => [x]
 | .build _ ps => ps.toList.map (·.2)
 | .buildSlice _ _ ps => ps.toList.map (·.2)
 | .load _ x => [x]
 | .store _ a x => [a, x]
 | .nilCheck x => [x]
 | .binOp _ _ x y _ => [x, y]
 | .unOp _ _ x => [x]
 | .convert _ _ x => [x]
 | .fieldAddr _ x _ => [x]
 | .field _ x _ => [x]
 | .indexAddr _ x i => [x, i]
 | .index _ x i => [x, i]
 | .extract x _ => [x]
 | .slice _ x l h m => x :: (l.toList ++ (h.toList ++ m.toList))
 | .call ⟨.builtin _, as, _⟩ => as.toList
 | .call ⟨.value f, as, _⟩ => f :: as.toList
 | o => o.operands.toList
theorem opdL_mem {op : Op} {X : Operand} (hX : X ∈ op.operands) : X ∈ opdL op := by
 cases op <;> simp only [Op.operands] at hX <;> simp only [opdL] <;> try (first | (simpa using hX; done) | (simpa [Op.operands] using hX; done))
 case call cl =>
  obtain ⟨callee, args, ts⟩ := cl
  cases callee with
  | builtin b => simp [Call.operands] at hX; simpa [opdL] using hX
  | value f => simp [Call.operands] at hX; simpa [opdL] using hX
  | invoke r m => simp [Call.operands] at hX; simpa [opdL, Op.operands, Call.operands] using hX
theorem opdT_mem {op : Op} {X : Operand} (hX : X ∈ opdT op) : X ∈ opdL op := opdL_mem (opdT_sub hX)
def tmpsL : List Operand → List Nat
 | [] => []
 | .tmp t :: l => t :: tmpsL l
 | _ :: l => tmpsL l
theorem tmpsL_mem {l : List Operand} {t : Nat} (h : Operand.tmp t ∈ l) : t ∈ tmpsL l := by
 induction l with
 | nil => cases h
 | cons X l ih =>
  rcases List.mem_cons.1 h with rfl | h'
  ·exact List.mem_cons_self
  ·clear h
   cases X <;> simp only [tmpsL] <;> first | exact ih h' | exact List.mem_cons_of_mem _ (ih h')
def grdT (all : List Oper) (o : Oper) : List Nat := match o.guard with
 | none => []
 | some (i, _) => match all[i]? with
  | some o' => match o'.dst with
   | some t => [t]
   | none => []
  | none => []
def reads (all : List Oper) (o : Oper) : List Nat := tmpsL (opdL o.op) ++ grdT all o
theorem evF_congr {all : List Oper} {o : Oper} {f f' : TF} (hf : ∀ t ∈ reads all o, f t = f' t) {X : Operand} (hX : X ∈ opdL o.op) : evF f X = evF f' X := by
 cases X <;> try rfl
 exact hf _ (List.mem_append_left _ (tmpsL_mem hX))
theorem wan_congr {all : List Oper} {o : Oper} {f f' : TF} (hf : ∀ t ∈ reads all o, f t = f' t) : wan all f o = wan all f' o := by
 have key : gdG all f o.guard = gdG all f' o.guard := by
  have hg : ∀ t ∈ grdT all o, f t = f' t := fun t ht => hf t (List.mem_append_right _ ht)
  unfold grdT at hg
  unfold gdG
  cases hgd : o.guard with
  | none => rfl
  | some gw =>
   obtain ⟨i, want⟩ := gw
   rw [hgd] at hg
   cases ho : all[i]? with
   | none => simp [ho]
   | some o' =>
    cases hdst : o'.dst with
    | none => simp [ho, hdst]
    | some t => simp only [ho, hdst] at hg ⊢; rw [hg t List.mem_cons_self]
 unfold wan
 rw [key]
def bit (ms : List Nat) (i j : Nat) : Bool := ((ms[j]?).getD 0).testBit i
def edM (ms : List Nat) : List Edge → Nat
 | [] => 0
 | e :: l => if Region.binds .any e = true then (2 ^ e.on ||| (ms[e.on]?).getD 0) ||| edM ms l else edM ms l
theorem edM_bit {ms : List Nat} {l : List Edge} {i : Nat} (h : (edM ms l).testBit i = true) : ∃ e ∈ l, Region.binds .any e = true ∧ (e.on = i ∨ bit ms i e.on = true) := by
 induction l with
 | nil => simp [edM] at h
 | cons e l ih =>
  simp only [edM] at h
  split at h
  ·rename_i hb
   rw [Nat.testBit_or, Nat.testBit_or, Bool.or_eq_true, Bool.or_eq_true, Nat.testBit_two_pow] at h
   rcases h with (h | h) | h
   ·exact ⟨e, List.mem_cons_self, hb, .inl (by simpa using h)⟩
   ·exact ⟨e, List.mem_cons_self, hb, .inr h⟩
   ·obtain ⟨e', h1, h2⟩ := ih h; exact ⟨e', List.mem_cons_of_mem _ h1, h2⟩
  ·obtain ⟨e', h1, h2⟩ := ih h; exact ⟨e', List.mem_cons_of_mem _ h1, h2⟩
def conf (all : List Oper) (oi oj : Oper) : Bool := match oj.dst with
 | none => false
 | some d => (reads all oi).contains d || oi.dst == some d
def feeds (all : List Oper) (oi oj : Oper) : Bool := match oi.dst with
 | none => false
 | some d => (reads all oj).contains d
def ordOne (all : List Oper) (ms : List Nat) (j : Nat) (oj : Oper) (rest : List Nat) (i : Nat) : Bool := match all[i]? with
 | none => false
 | some oi => (!effB oi.op || bit ms i j) && (!feeds all oi oj || bit ms i j) && (!conf all oi oj || (j :: rest).all fun j' => bit ms i j')
def ordOk (all : List Oper) (ms : List Nat) : List Nat → List Nat → Bool
 | _, [] => true
 | pre, j :: rest => match all[j]? with
  | none => false
  | some oj => !pre.contains j && !feeds all oj oj && (oj.after.toList.all fun e => !Region.binds .any e || pre.contains e.on) && pre.all (ordOne all ms j oj rest) && ordOk all ms (j :: pre) rest
def msOk (ms : List Nat) : List Nat → List Oper → Bool
 | [], [] => true
 | m :: l, o :: os => m == edM ms o.after.toList && msOk ms l os
 | _, _ => false
def drawOk (all : List Oper) (ord ms : List Nat) : Bool := ordOk all ms [] ord && (List.range all.length).all (fun j => ord.contains j) && msOk ms ms all
theorem msOk_at {ms l : List Nat} {os : List Oper} (h : msOk ms l os = true) {j : Nat} {o : Oper} (ho : os[j]? = some o) : (l[j]?).getD 0 = edM ms o.after.toList := by
 induction l generalizing os j with
 | nil => cases os with
  | nil => simp at ho
  | cons => cases h
 | cons m l ih => cases os with
  | nil => simp at ho
  | cons o' os =>
   simp only [msOk, Bool.and_eq_true, beq_iff_eq] at h
   cases j with
   | zero => simp at ho; subst ho; simp [h.1]
   | succ j => simpa using ih h.2 (by simpa using ho)
mutual
def AV.away (r : Nat) : AV → Bool
 | .any => true
 | .v _ => true
 | .agg l => awayL r l
 | .tup l => awayL r l
 | .sl _ _ es => awayL r es
 | .isp _ _ es _ _ => awayL r es
 | .ref _ _ _ _ => true
 | .rsl s _ _ _ => s != r
 | .clo _ l => awayL r l
def awayL (r : Nat) : List AV → Bool
 | [] => true
 | x :: l => x.away r && awayL r l
end
def awayO (r : Nat) : Ob → Bool
 | .arr _ _ es => awayL r es
 | _ => true
mutual
theorem pass_congr {inv : Nat → Option Nat} {h h' : HF} : ∀ (x : AV), (∀ r, x.away r = true ∨ h r = h' r) → x.pass inv h = x.pass inv h'
 | .any, _ => rfl
 | .v _, _ => rfl
 | .agg l, k => by simp only [AV.pass]; rw [passL_congr l k]
 | .tup l, k => by simp only [AV.pass]; rw [passL_congr l k]
 | .sl _ _ es, k => by simp only [AV.pass]; rw [passL_congr es k]
 | .isp _ _ es _ _, k => by simp only [AV.pass]; rw [passL_congr es k]
 | .ref _ _ _ _, _ => rfl
 | .rsl s g o n, k => by
  have : h s = h' s := by
   rcases k s with k | k
   ·simp [AV.away] at k
   ·exact k
  simp only [AV.pass, this]
 | .clo _ l, k => by simp only [AV.pass]; rw [passL_congr l k]
theorem passL_congr {inv : Nat → Option Nat} {h h' : HF} : ∀ (l : List AV), (∀ r, awayL r l = true ∨ h r = h' r) → passL inv h l = passL inv h' l
 | [], _ => rfl
 | x :: l, k => by
  simp only [passL]
  rw [pass_congr x fun r => (k r).imp (fun e => by simp only [awayL, Bool.and_eq_true] at e; exact e.1) id, passL_congr l fun r => (k r).imp (fun e => by simp only [awayL, Bool.and_eq_true] at e; exact e.2) id]
end
theorem entry_congr {inv : Nat → Option Nat} {h h' : HF} : ∀ (i : Nat) (ρ : List Nat), (∀ s ∈ ρ, h s = h' s) → (∀ r, (∀ s ∈ ρ, awayO r (h s) = true) ∨ h r = h' r) → entry inv h i ρ = entry inv h' i ρ
 | _, [], _, _ => rfl
 | i, s :: ρ, k1, k2 => by
  simp only [entry]
  rw [entry_congr (i + 1) ρ (fun s hs => k1 s (List.mem_cons_of_mem _ hs)) (fun r => (k2 r).imp (fun e s hs => e s (List.mem_cons_of_mem _ hs)) id)]
  have : passO inv h (h s) = passO inv h' (h' s) := by
   rw [← k1 s List.mem_cons_self]
   cases hs : h s with
   | arr g sz es =>
    simp only [passO]
    rw [passL_congr es fun r => (k2 r).imp (fun e => by have := e s List.mem_cons_self; rw [hs] at this; exact this) id]
   | _ => rfl
  rw [this]
end Go.Proofs.YthblfhgofopcaaaGreat
