/-
  Parts of the proof: VmE.
-/
import Derived.Test.YthblfhgofopcaaaGreatHA02
import Derived.ChangeKeysEq
set_option linter.all false
namespace Go.Proofs.YthblfhgofopcaaaGreat
open Go.RowKit
variable [DM]
section
variable {P : Program} {T : Tys} {c : Cx} {h : HF} {ρ : Operand → Value} {o : Oper} {x : AV} {p : Prop} {us : List (Nat × Ob)}
theorem inv_v {x y : Value} (hx : RelV c h (.v x) y) : y = x := by cases hx; rfl
theorem ran_move {X : Operand} {a : AV} (ho : o.op = .move X ∨ o.op = .assign X) (hh : RelH c h) (ha : RelV c h a (ρ X)) : Ran P c h (execOp ρ o) a h := by
 rcases ho with ho | ho <;> exact .val (y := ρ X) (by simp [execOp, ho]) hh ha
theorem ran_pick {C A B : Operand} {a b d : AV} (ho : o.op = .pick C A B) (hh : RelH c h) (hd : RelV c h d (ρ C)) (ha : RelV c h a (ρ A)) (hb : RelV c h b (ρ B)) (hp : pickF d a b = .out p x us) : Ran P c h (execOp ρ o) x (ups us h) := by
 unfold pickF at hp
 split at hp
 ·rename_i t
  have hC := inv_v hd
  split at hp
  ·rename_i q r
   injection hp with h1 h2 h3
   subst h2 h3
   have hA := inv_v ha
   have hB := inv_v hb
   refine .val (y := .bool (bif t then q else r)) ?_ hh (.v _)
   cases t <;> simp [execOp, ho, hC, hA, hB, asBool]
  ·injection hp with h1 h2 h3
   subst h2 h3
   cases t
   ·exact .val (y := ρ B) (by simp [execOp, ho, hC, asBool]) hh hb
   ·exact .val (y := ρ A) (by simp [execOp, ho, hC, asBool]) hh ha
 ·cases hp
theorem ran_nilCheck {X : Operand} {a : AV} (ho : o.op = .nilCheck X) (hh : RelH c h) (ha : RelV c h a (ρ X)) (hp : nilCheckF h a = .out p x us) (hq : p) : Ran P c h (execOp ρ o) x (ups us h) := by
 cases a with
 | ref r g k j =>
  simp only [nilCheckF] at hp
  split at hp
  ·rename_i g' sz es hr
   injection hp with h1 h2 h3
   subst h1 h2 h3
   subst hq
   have ha' := ha
   cases ha' with
   | ref _ _ _ _ _ _ hg =>
    rw [hr] at hg
    have := hg.2 rfl
    exact .val (y := ρ X) (by simp [execOp, ho, this]) hh ha
  ·cases hp
 | isp f sz es k j =>
  injection hp with h1 h2 h3
  subst h2 h3
  have ha' := ha
  generalize hy : ρ X = y at *
  cases ha' with
  | isp => exact .val (by simp [execOp, ho, hy]) hh ha
 | clo f l =>
  injection hp with h1 h2 h3
  subst h2 h3
  have ha' := ha
  generalize hy : ρ X = y at *
  cases ha' with
  | clo => exact .val (by simp [execOp, ho, hy]) hh ha
 | _ => cases hp
theorem ran_int {op : BinOp} {ty ty' : Nat} {X Y : Operand} {k k' : IntKind} {a b : Int} (ho : o.op = .binOp op ty X Y ty') (hh : RelH c h) (hX : ρ X = .int k a) (hY : ρ Y = .int k' b) (hp : intF op k k' a b = .out p x us) (hq : p) : Ran P c h (execOp ρ o) x (ups us h) := by
 have key : ∀ v : Value, x = .v v → us = [] → (execOp ρ o).run P c.w = .ok (.value v) c.w → Ran P c h (execOp ρ o) x (ups us h) := fun v h1 h2 h3 => by
  subst h1 h2
  exact .val h3 hh (.v v)
 cases op <;> simp only [intF] at hp <;> injection hp with h1 h2 h3 <;> subst h1 h2 h3
 case add => subst hq; exact key _ rfl rfl (by simp [execOp, ho, hX, hY, eqGuard, binOp, Op.intArith])
 case sub => subst hq; exact key _ rfl rfl (by simp [execOp, ho, hX, hY, eqGuard, binOp, Op.intArith])
 case mul => subst hq; exact key _ rfl rfl (by simp [execOp, ho, hX, hY, eqGuard, binOp, Op.intArith])
 case quo => obtain ⟨rfl, hq⟩ := hq; exact key _ rfl rfl (by simp [execOp, ho, hX, hY, eqGuard, binOp, Op.intDiv, hq])
 case rem => obtain ⟨rfl, hq⟩ := hq; exact key _ rfl rfl (by simp [execOp, ho, hX, hY, eqGuard, binOp, Op.intDiv, hq])
 case and => subst hq; exact key _ rfl rfl (by simp [execOp, ho, hX, hY, eqGuard, binOp, Op.intBits])
 case or => subst hq; exact key _ rfl rfl (by simp [execOp, ho, hX, hY, eqGuard, binOp, Op.intBits])
 case xor => subst hq; exact key _ rfl rfl (by simp [execOp, ho, hX, hY, eqGuard, binOp, Op.intBits])
 case andNot => subst hq; exact key _ rfl rfl (by simp [execOp, ho, hX, hY, eqGuard, binOp, Op.intBits])
 case shl => exact key _ rfl rfl (by simp [execOp, ho, hX, hY, eqGuard, binOp, Op.shift, show ¬ b < 0 by omega])
 case shr => exact key _ rfl rfl (by simp [execOp, ho, hX, hY, eqGuard, binOp, Op.shift, show ¬ b < 0 by omega])
 case eql => subst hq; exact key _ rfl rfl (by simp [execOp, ho, hX, hY, eqGuard, binOp, Op.intCmp])
 case neq => subst hq; exact key _ rfl rfl (by simp [execOp, ho, hX, hY, eqGuard, binOp, Op.intCmp])
 case lss => subst hq; exact key _ rfl rfl (by simp [execOp, ho, hX, hY, eqGuard, binOp, Op.intCmp])
 case leq => subst hq; exact key _ rfl rfl (by simp [execOp, ho, hX, hY, eqGuard, binOp, Op.intCmp])
 case gtr => subst hq; exact key _ rfl rfl (by simp [execOp, ho, hX, hY, eqGuard, binOp, Op.intCmp])
 case geq => subst hq; exact key _ rfl rfl (by simp [execOp, ho, hX, hY, eqGuard, binOp, Op.intCmp])
theorem isNil_spec {a : AV} {q : Prop} {b : Bool} {y : Value} (ha : RelV c h a y) (hn : isNilF h a = some (q, b)) (hq : q) : ∃ A n m, y = .slice A n m ∧ b = A.isNone := by
 unfold isNilF at hn
 split at hn
 ·injection hn with hn; injection hn with h1 h2; subst h2; cases ha; exact ⟨none, _, _, rfl, rfl⟩
 ·injection hn with hn; injection hn with h1 h2; subst h2; cases ha; exact ⟨_, _, _, rfl, rfl⟩
 ·rename_i es
  injection hn with hn; injection hn with h1 h2; subst h1 h2
  cases ha with
  | slE => exact absurd rfl hq
  | sl => exact ⟨_, _, _, rfl, rfl⟩
 ·rename_i r g o n
  split at hn
  ·rename_i g' sz es hr
   injection hn with hn; injection hn with h1 h2; subst h1 h2
   obtain ⟨rfl, h0⟩ := hq
   cases ha with
   | rsl _ _ _ _ _ _ hg =>
    rw [hr] at hg
    obtain ⟨A, cap, rfl, hc, _, hA⟩ := hg.2 rfl
    obtain ⟨_, rfl, _⟩ := hA (by omega)
    exact ⟨_, _, _, rfl, rfl⟩
  ·cases hn
 ·cases hn
theorem ty_bool (hT : TyOk P T) {t : Nat} {i : TI} (ht : T t = some i) (hk : i.k = .bool) : P.underlying t = some .bool := by
 obtain ⟨j, d, z, _, h2, _, _, _, _, _, _, h3⟩ := ti_info hT ht
 rw [hk] at h3
 cases d <;> first | exact h2 | cases h3
theorem ty_slice (hT : TyOk P T) {t e : Nat} {i : TI} (ht : T t = some i) (hk : i.k = .slice e) : P.underlying t = some (.slice e) := by
 obtain ⟨j, d, z, _, h2, _, _, _, _, _, _, h3⟩ := ti_info hT ht
 rw [hk] at h3
 cases d <;> simp only [tkOf] at h3 <;> (cases h3 <;> exact h2)
theorem ty_int (hT : TyOk P T) {t : Nat} {k : IntKind} {i : TI} (ht : T t = some i) (hk : i.k = .int k) : P.underlying t = some (.int k) := by
 obtain ⟨j, d, z, _, h2, _, _, _, _, _, _, h3⟩ := ti_info hT ht
 rw [hk] at h3
 cases d <;> simp only [tkOf] at h3 <;> (cases h3 <;> exact h2)
theorem ty_arr (hT : TyOk P T) {t n e : Nat} {i : TI} (ht : T t = some i) (hk : i.k = .arr n e) : P.underlying t = some (.array n e) := by
 obtain ⟨j, d, z, _, h2, _, _, _, _, _, _, h3⟩ := ti_info hT ht
 rw [hk] at h3
 cases d <;> simp only [tkOf] at h3 <;> (cases h3 <;> exact h2)
theorem ty_st (hT : TyOk P T) {t : Nat} {fs : List (Nat × Nat)} {i : TI} (ht : T t = some i) (hk : i.k = .st fs) : ∃ F : Array Field, P.underlying t = some (.struct F) ∧ F.toList.map (fun f => (f.offset, f.type)) = fs := by
 obtain ⟨j, d, z, _, h2, _, _, _, _, _, _, h3⟩ := ti_info hT ht
 rw [hk] at h3
 cases d <;> simp only [tkOf] at h3 <;> (cases h3 <;> exact ⟨_, h2, rfl⟩)
theorem ty_str (hT : TyOk P T) {t : Nat} {i : TI} (ht : T t = some i) (hk : i.k = .str) : P.underlying t = some .string := by
 obtain ⟨j, d, z, _, h2, _, _, _, _, _, _, h3⟩ := ti_info hT ht
 rw [hk] at h3
 cases d <;> first | exact h2 | cases h3
theorem ty_bool' (hT : TyOk P T) {t : Nat} {i : TI} (ht : T t = some i) (hk : i.k = .bool) : P.underlying t = some .bool := by
 obtain ⟨j, d, z, _, h2, _, _, _, _, _, _, h3⟩ := ti_info hT ht
 rw [hk] at h3
 cases d <;> first | exact h2 | cases h3
theorem run_eqA (hT : TyOk P T) {xs ys : List AV} {vxs vys : Array Value} (l1 : xs.length = vxs.size) (l2 : ys.length = vys.size) (k1 : ∀ (i : Nat) (x : AV) (y : Value), xs[i]? = some x → vxs[i]? = some y → RelV c h x y)
  (k2 : ∀ (i : Nat) (x : AV) (y : Value), ys[i]? = some x → vys[i]? = some y → RelV c h x y) : ∀ (F : List Field), (∀ f ∈ F, f.name ≠ "_") → ∀ (w : World) (b : Bool), eqA T xs ys (F.map fun f => (f.offset, f.type)) = some b → (Op.eqFields 9999 vxs vys F).run P w = .ok b w
 | [], _, w, b, he => by simp only [List.map_nil, eqA] at he; injection he with he; subst he; simp [Op.eqFields]
 | f :: F, hF, w, b, he => by
  have at1 : ∀ {zs : List AV} {vzs : Array Value} {z : Value}, zs.length = vzs.size → (∀ (i : Nat) (x : AV) (y : Value), zs[i]? = some x → vzs[i]? = some y → RelV c h x y) → nth zs f.offset = .v z → vzs[f.offset]? = some z := fun {zs vzs z} hl hr hn => by
   unfold nth at hn
   cases hz : zs[f.offset]? with
   | none => rw [hz] at hn; cases hn
   | some x =>
    rw [hz] at hn
    simp only [Option.getD_some] at hn
    subst hn
    have hlt : f.offset < vzs.size := by rw [← hl]; exact (List.getElem?_eq_some_iff.1 hz).1
    have := hr f.offset _ vzs[f.offset] hz (by simp [hlt])
    have e := inv_v this
    simp [hlt, e]
  simp only [List.map_cons, eqA] at he
  simp only [Op.eqFields, if_pos (hF f List.mem_cons_self)]
  split at he
  ·rename_i kk hft
   have hag := run_isAgg hT hft w
   have hu := ty_int hT hft rfl
   split at he
   ·rename_i k a k' b' hx hy
    have e1 := at1 l1 k1 hx
    have e2 := at1 l2 k2 hy
    split at he
    ·rename_i hk
     subst hk
     split at he
     ·rename_i r hr
      injection he with he
      subst he
      have ih := run_eqA hT l1 l2 k1 k2 F (fun f hf => hF f (List.mem_cons_of_mem _ hf)) w r hr
      have hsc : aggD (.int kk) = false := rfl
      have hagF : (isAgg f.type).run P w = .ok false w := by simp [isAgg, run_underlying hu]
      simp only [Sem.run_bind, part, hagF, Result.andThen_ok, e1, e2, Bool.false_eq_true, if_false, Sem.run_pure, run_equalIn_int w 9998 f.type k kk a b' hu]
      cases hab : a == b'
      ·simp
      ·simp [ih]
     ·cases he
    ·cases he
   ·cases he
  ·rename_i hft
   have hu := ty_bool' hT hft rfl
   split at he
   ·rename_i a b' hx hy
    have e1 := at1 l1 k1 hx
    have e2 := at1 l2 k2 hy
    split at he
    ·rename_i r hr
     injection he with he
     subst he
     have ih := run_eqA hT l1 l2 k1 k2 F (fun f hf => hF f (List.mem_cons_of_mem _ hf)) w r hr
     have hagF : (isAgg f.type).run P w = .ok false w := by simp [isAgg, run_underlying hu]
     simp only [Sem.run_bind, part, hagF, Result.andThen_ok, e1, e2, Bool.false_eq_true, if_false, Sem.run_pure, run_equalIn_bool' w 9998 f.type a b' hu]
     cases hab : a == b'
     ·simp
     ·simp [ih]
    ·cases he
   ·cases he
  ·cases he
theorem run_eqIt (hT : TyOk P T) {e : Nat} {b0 by0 z0 kk} (hte : T e = some ⟨b0, 1, by0, z0, .int kk⟩) {xs ys : List AV} {vxs vys : Array Value} (l1 : xs.length = vxs.size) (l2 : ys.length = vys.size) (k1 : ∀ (i : Nat) (x : AV) (y : Value), xs[i]? = some x → vxs[i]? = some y → RelV c h x y)
  (k2 : ∀ (i : Nat) (x : AV) (y : Value), ys[i]? = some x → vys[i]? = some y → RelV c h x y) : ∀ (n k : Nat) (w : World) (b : Bool), eqIt xs ys k n = some b → (Op.eqItems 9999 e 1 vxs vys (List.range' k n)).run P w = .ok b w
 | 0, k, w, b, he => by simp only [eqIt] at he; injection he with he; subst he; simp [Op.eqItems]
 | n + 1, k, w, b, he => by
  have at1 : ∀ {zs : List AV} {vzs : Array Value} {z : Value}, zs.length = vzs.size → (∀ (i : Nat) (x : AV) (y : Value), zs[i]? = some x → vzs[i]? = some y → RelV c h x y) → nth zs k = .v z → vzs[k]? = some z := fun {zs vzs z} hl hr hn => by
   unfold nth at hn
   cases hz : zs[k]? with
   | none => rw [hz] at hn; cases hn
   | some x =>
    rw [hz] at hn
    simp only [Option.getD_some] at hn
    subst hn
    have hlt : k < vzs.size := by rw [← hl]; exact (List.getElem?_eq_some_iff.1 hz).1
    have := hr k _ vzs[k] hz (by simp [hlt])
    have e := inv_v this
    simp [hlt, e]
  have hu := ty_int hT hte rfl
  have hagF : (isAgg e).run P w = .ok false w := by simp [isAgg, run_underlying hu]
  simp only [eqIt] at he
  simp only [List.range'_succ, Op.eqItems]
  split at he
  ·rename_i q a q' b' hx hy
   have e1 := at1 l1 k1 hx
   have e2 := at1 l2 k2 hy
   split at he
   ·rename_i hk
    subst hk
    split at he
    ·rename_i r hr
     injection he with he
     subst he
     have ih := run_eqIt hT hte l1 l2 k1 k2 n (k + 1) w r hr
     simp only [Sem.run_bind, part, hagF, Result.andThen_ok, Nat.mul_one, e1, e2, Bool.false_eq_true, if_false, Sem.run_pure, run_equalIn_int w 9998 e q kk a b' hu]
     cases hab : a == b'
     ·simp
     ·simp [ih]
    ·cases he
   ·cases he
  ·cases he
theorem ran_bin {op : BinOp} {ty ty' : Nat} {X Y : Operand} {a b : AV} (hT : TyOk P T) (ho : o.op = .binOp op ty X Y ty') (hh : RelH c h) (ha : RelV c h a (ρ X)) (hb : RelV c h b (ρ Y)) (hp : binF T h op (T ty) a b = .out p x us) (hq : p) : Ran P c h (execOp ρ o) x (ups us h) := by
 unfold binF at hp
 split at hp
 ·exact ran_int ho hh (inv_v ha) (inv_v hb) hp hq
 ·rename_i a' b'
  have hX := inv_v ha
  have hY := inv_v hb
  split at hp
  ·rename_i ht
   have hu := ty_bool hT ht rfl
   split at hp
   ·injection hp with h1 h2 h3
    subst h2 h3
    exact .val (y := .bool (a' == b')) (by simp [execOp, ho, hX, hY, eqGuard, run_eql_bool (P := P) c.w ty a' b' hu]) hh (.v _)
   ·injection hp with h1 h2 h3
    subst h2 h3
    exact .val (y := .bool (a' != b')) (by simp [execOp, ho, hX, hY, eqGuard, run_neq_bool (P := P) c.w ty a' b' hu, bne]) hh (.v _)
   ·cases hp
  ·cases hp
 ·have hY := inv_v hb
  split at hp
  ·rename_i ht
   have hu := ty_slice hT ht rfl
   split at hp
   ·rename_i q b' hn
    split at hp
    ·injection hp with h1 h2 h3
     subst h1 h2 h3
     obtain ⟨A, n, m, hX, rfl⟩ := isNil_spec ha hn hq
     exact .val (y := .bool A.isNone) (by simp [execOp, ho, hX, hY, eqGuard, Lib.run_eql_slice_nil c.w ty _ A n m 0 0 hu]) hh (.v _)
    ·injection hp with h1 h2 h3
     subst h1 h2 h3
     obtain ⟨A, n, m, hX, rfl⟩ := isNil_spec ha hn hq
     exact .val (y := .bool !A.isNone) (by simp [execOp, ho, hX, hY, eqGuard, run_neq_slice_nil_any c.w ty _ A n m 0 0 hu]) hh (.v _)
    ·cases hp
   ·cases hp
  ·cases hp
 ·rename_i xs ys
  split at hp
  ·rename_i fs ht
   split at hp
   ·rename_i b he
    obtain ⟨F, hu, hF⟩ := ty_st hT ht rfl
    have hfine := ti_fine hT ht hu
    unfold eqFine at hfine
    simp only [Bool.and_eq_true, List.all_eq_true, decide_eq_true_eq, Bool.not_eq_true'] at hfine
    generalize hX : ρ X = vx at *
    generalize hY : ρ Y = vy at *
    cases ha with
    | agg _ vxs l1 k1 =>
    cases hb with
    | agg _ vys l2 k2 =>
    have hfo : P.fieldsOf ty = F := by unfold Program.fieldsOf; rw [hu]
    have hE : ∀ w, (Op.equalIn 10000 ty (.agg vxs) (.agg vys)).run P w = .ok b w := fun w => by
     rw [show (10000 : Nat) = 9999 + 1 from rfl, run_equalIn_struct w 9999 ty vxs vys (by rw [hfo]; exact hu) hfine.2.1, hfo]
     exact run_eqA hT l1 l2 k1 k2 F.toList (fun f hf => hfine.1 f hf) w b (by rw [hF]; exact he)
    split at hp
    ·injection hp with h1 h2 h3
     subst h2 h3
     exact .val (y := .bool b) (by simp [execOp, ho, hX, hY, run_eqGuard_agg (P := P) c.w .eql ty X Y vxs vys hfine.2.2, run_eql_struct, hE]) hh (.v _)
    ·injection hp with h1 h2 h3
     subst h2 h3
     exact .val (y := .bool !b) (by simp [execOp, ho, hX, hY, run_eqGuard_agg (P := P) c.w .neq ty X Y vxs vys hfine.2.2, run_neq_struct, hE]) hh (.v _)
    ·cases hp
   ·cases hp
  ·rename_i n e ht
   split at hp
   ·rename_i hte
    split at hp
    ·rename_i b he
     have hu := ty_arr hT ht rfl
     have hfine := ti_fine hT ht hu
     unfold eqFine at hfine
     simp only [Bool.not_eq_true'] at hfine
     obtain ⟨j, d, z, hj1, _⟩ := ti_info hT hte
     have hc : P.cellsOf e = 1 := by
      have e1 := run_size hT hte c.w
      rw [run_sizeOf c.w hj1] at e1
      injection e1
     generalize hX : ρ X = vx at *
     generalize hY : ρ Y = vy at *
     cases ha with
     | agg _ vxs l1 k1 =>
     cases hb with
     | agg _ vys l2 k2 =>
     have hE : ∀ w, (Op.equalIn 10000 ty (.agg vxs) (.agg vys)).run P w = .ok b w := fun w => by
      rw [show (10000 : Nat) = 9999 + 1 from rfl, run_equalIn_array (w := w) 9999 vxs vys hu hj1, hc, List.range_eq_range']
      exact run_eqIt hT hte l1 l2 k1 k2 n 0 w b he
     split at hp
     ·injection hp with h1 h2 h3
      subst h2 h3
      exact .val (y := .bool b) (by simp [execOp, ho, hX, hY, run_eqGuard_agg (P := P) c.w .eql ty X Y vxs vys hfine, run_eql_struct, hE]) hh (.v _)
     ·injection hp with h1 h2 h3
      subst h2 h3
      exact .val (y := .bool !b) (by simp [execOp, ho, hX, hY, run_eqGuard_agg (P := P) c.w .neq ty X Y vxs vys hfine, run_neq_struct, hE]) hh (.v _)
     ·cases hp
    ·cases hp
   ·cases hp
  ·cases hp
 ·cases hp
theorem ran_un {op : UnOp} {ty : Nat} {X : Operand} {a : AV} (ho : o.op = .unOp op ty X) (hh : RelH c h) (ha : RelV c h a (ρ X)) (hp : unF op a = .out p x us) : Ran P c h (execOp ρ o) x (ups us h) := by
 unfold unF at hp
 split at hp
 ·injection hp with h1 h2 h3
  subst h2 h3
  exact .val (by simp [execOp, ho, inv_v ha, Op.unary]) hh (.v _)
 ·injection hp with h1 h2 h3
  subst h2 h3
  exact .val (by simp [execOp, ho, inv_v ha, Op.unary, Op.intArith]) hh (.v _)
 ·cases hp
theorem ran_conv {s d : Nat} {X : Operand} {a : AV} (hT : TyOk P T) (ho : o.op = .convert s d X) (hh : RelH c h) (ha : RelV c h a (ρ X)) (hp : convF (T s) (T d) a = .out p x us) : Ran P c h (execOp ρ o) x (ups us h) := by
 unfold convF at hp
 split at hp
 ·split at hp
  ·rename_i hs hd
   injection hp with h1 h2 h3
   subst h2 h3
   obtain ⟨_, ds, _, _, h5, _⟩ := ti_info hT hs
   have hu := ty_int hT hd rfl
   exact .val (by simp [execOp, ho, inv_v ha, convert, run_underlying h5, run_underlying hu, Conv.intToInt]) hh (.v _)
  ·cases hp
 ·cases hp
theorem ran_fieldPtr {s f : Nat} {X : Operand} {a : AV} (hT : TyOk P T) (ho : o.op = .fieldAddr s X f) (hh : RelH c h) (ha : RelV c h a (ρ X)) (hp : fieldPtrF T h (T s) f a = .out p x us) (hq : p) : Ran P c h (execOp ρ o) x (ups us h) := by
 unfold fieldPtrF at hp
 split at hp
 ·rename_i fs ht
  obtain ⟨F, hu, hF⟩ := ty_st hT ht rfl
  split at hp
  ·rename_i off ft hf
   split at hp
   ·rename_i i hft
    have hFf : ∃ fl, F[f]? = some fl ∧ fl.offset = off ∧ fl.type = ft := by
     rw [← hF] at hf
     simp only [List.getElem?_map, Option.map_eq_some_iff] at hf
     obtain ⟨fl, h1, h2⟩ := hf
     injection h2 with h2 h3
     exact ⟨fl, by simpa using h1, h2, h3⟩
    obtain ⟨fl, hfl, rfl, rfl⟩ := hFf
    have hsz := run_size hT hft c.w
    have run : ∀ b o', i.size ≠ 0 → ρ X = .pointer (some ⟨b, o', none⟩) → (execOp ρ o).run P c.w = .ok (.value (.pointer (some ⟨b, o' + fl.offset, none⟩))) c.w := fun b o' h0 hX => by
     simp [execOp, ho, hX, Instr.fieldAt, run_underlying hu, hfl, Instr.sureAddr, fieldPlace, hsz, h0, Addr.add_lit]
    split at hp
    ·rename_i r g k j
     split at hp
     ·rename_i g' sz es hr
      injection hp with h1 h2 h3
      subst h1 h2 h3
      obtain ⟨rfl, h0⟩ := hq
      cases ha with
      | ref _ _ _ _ _ _ hg =>
       have hg' := hg
       rw [hr] at hg
       have hy := hg.2 rfl
       refine .val (run _ _ h0 hy) hh (.ref _ _ _ _ _ rfl ?_)
       rw [hr]
       exact ⟨Nat.le_refl _, fun _ => by simp [Nat.add_assoc]⟩
     ·cases hp
    ·rename_i fl' sz es k j
     injection hp with h1 h2 h3
     subst h1 h2 h3
     generalize hy : ρ X = y at *
     cases ha with
     | isp _ _ _ _ _ b o' ys hs hz hc hr => exact .val (run _ _ hq rfl) hh (by rw [Nat.add_assoc]; exact .isp _ _ _ _ _ b o' ys hs hz hc hr)
    ·cases hp
   ·cases hp
  ·cases hp
 ·cases hp
theorem ran_indexPtr {t : Nat} {X I : Operand} {a i : AV} (hT : TyOk P T) (ho : o.op = .indexAddr t X I) (hh : RelH c h) (ha : RelV c h a (ρ X)) (hi : RelV c h i (ρ I)) (hp : indexPtrF T h (T t) a i = .out p x us) (hq : p) : Ran P c h (execOp ρ o) x (ups us h) := by
 unfold indexPtrF at hp
 split at hp
 ·rename_i e kk n ht
  have hI := inv_v hi
  have hu := ty_slice hT ht rfl
  split at hp
  ·rename_i ei hte
   have hsz := run_size hT hte c.w
   have run : ∀ (b o' m cap : Nat), 0 ≤ n → n < (m : Int) → ρ X = .slice (some ⟨b, o', none⟩) m cap → (execOp ρ o).run P c.w = .ok (.value (.pointer (some ⟨b, o' + n.toNat * ei.size, none⟩))) c.w := fun b o' m cap h0 h1 hX => by
    simp [execOp, ho, hX, hI, Instr.indexAt, asIntOf, run_underlying hu, hsz, h0, h1, Addr.add_lit]
   split at hp
   ·rename_i r g o' m
    split at hp
    ·rename_i g' sz es hr
     injection hp with h1 h2 h3
     subst h1 h2 h3
     obtain ⟨rfl, rfl, h0, h1⟩ := hq
     cases ha with
     | rsl _ _ _ _ _ _ hg =>
      rw [hr] at hg
      obtain ⟨A, cap, hy, hc, _, hA⟩ := hg.2 rfl
      obtain ⟨_, rfl, _⟩ := hA (by omega)
      refine .val (run _ _ _ _ h0 h1 hy) hh (.ref _ _ _ _ _ rfl ?_)
      rw [hr]
      exact ⟨Nat.le_refl _, fun _ => by simp [Nat.add_mul]⟩
    ·cases hp
   ·rename_i f sz es
    injection hp with h1 h2 h3
    subst h1 h2 h3
    obtain ⟨rfl, h0, h1⟩ := hq
    generalize hy : ρ X = y at *
    cases ha with
    | slE => simp at h1; omega
    | sl _ _ _ b o' cap ys hl hm hs hz hc hr => exact .val (run _ _ _ _ h0 h1 rfl) hh (.isp _ _ _ _ 0 b o' ys hs hz hc hr)
   ·cases hp
  ·cases hp
 ·rename_i m e kk n ht
  have hI := inv_v hi
  have hu := ty_arr hT ht rfl
  split at hp
  ·rename_i ei hte
   have hsz := run_size hT hte c.w
   have run : ∀ b o', 0 ≤ n → n < (m : Int) → ρ X = .pointer (some ⟨b, o', none⟩) → (execOp ρ o).run P c.w = .ok (.value (.pointer (some ⟨b, o' + n.toNat * ei.size, none⟩))) c.w := fun b o' h0 h1 hX => by
    simp [execOp, ho, hX, hI, Instr.indexAt, Instr.sureAddr, asIntOf, run_underlying hu, hsz, h0, h1, Addr.add_lit]
   split at hp
   ·rename_i r g k j
    split at hp
    ·rename_i g' sz es hr
     injection hp with h1 h2 h3
     subst h1 h2 h3
     obtain ⟨rfl, h0, h1⟩ := hq
     cases ha with
     | ref _ _ _ _ _ _ hg =>
      rw [hr] at hg
      have hy := hg.2 rfl
      refine .val (run _ _ h0 h1 hy) hh (.ref _ _ _ _ _ rfl ?_)
      rw [hr]
      exact ⟨Nat.le_refl _, fun _ => by simp [Nat.add_assoc]⟩
    ·cases hp
   ·rename_i f sz es k j
    injection hp with h1 h2 h3
    subst h1 h2 h3
    generalize hy : ρ X = y at *
    cases ha with
    | isp _ _ _ _ _ b o' ys hs hz hc hr => exact .val (run _ _ hq.1 hq.2 rfl) hh (by rw [Nat.add_assoc]; exact .isp _ _ _ _ _ b o' ys hs hz hc hr)
   ·cases hp
  ·cases hp
 ·cases hp
theorem ran_len {t : Nat} {X : Operand} {a : AV} {at' : Array Nat} (hT : TyOk P T) (ho : o.op = .call ⟨.builtin .len, #[X], at'⟩) (hat : at'[0]? = some t) (hh : RelH c h) (ha : RelV c h a (ρ X)) (hp : lenF h (T t) a = .out p x us) (hq : p) : Ran P c h (execOp ρ o) x (ups us h) := by
 have run : ∀ n : Nat, (Builtin.len_ at' o.type #[ρ X]).run P c.w = .ok (.int .i64 n) c.w → Ran P c h (execOp ρ o) (.v (.int .i64 n)) h := fun n hr =>
  .val (by simp [execOp, ho, resolve, invoke, builtin, hr]) hh (.v _)
 unfold lenF at hp
 split at hp
 ·split at hp
  ·rename_i ht
   injection hp with h1 h2 h3
   subst h2 h3
   have hu := ty_slice hT ht rfl
   refine run _ ?_
   generalize hy : ρ X = y at *
   cases ha <;> simp [Builtin.len_, hat, run_underlying hu, goInt]
  ·cases hp
 ·split at hp
  ·rename_i ht
   have hu := ty_slice hT ht rfl
   split at hp
   ·rename_i g' sz es hr
    injection hp with h1 h2 h3
    subst h1 h2 h3
    subst hq
    refine run _ ?_
    cases ha with
    | rsl _ _ _ _ _ _ hg =>
     rw [hr] at hg
     obtain ⟨A, cap, hy, _⟩ := hg.2 rfl
     simp [Builtin.len_, hat, run_underlying hu, goInt, hy]
   ·cases hp
  ·cases hp
 ·split at hp
  ·rename_i ht
   injection hp with h1 h2 h3
   subst h2 h3
   have hu := ty_slice hT ht rfl
   exact run _ (by simp [Builtin.len_, hat, run_underlying hu, goInt, inv_v ha])
  ·cases hp
 ·split at hp
  ·rename_i ht
   injection hp with h1 h2 h3
   subst h2 h3
   have hu := ty_str hT ht rfl
   exact run _ (by simp [Builtin.len_, hat, run_underlying hu, goInt, inv_v ha])
  ·cases hp
 ·cases hp
end
end Go.Proofs.YthblfhgofopcaaaGreat
