/-
  Parts of the proof: VmQ, VmR.
-/
import Derived.Test.YthblfhgofopcaaaGreatHA09
set_option linter.all false
namespace Go.Proofs.YthblfhgofopcaaaGreat
open Go.RowKit
variable [DM]
def argsT : Nat → List AV → List (Nat × AV)
 | _, [] => []
 | i, x :: l => (i, x) :: argsT (i + 1) l
def resP (T : Tys) (tm : List (Nat × AV)) (h : HF) : List ResultVar → Prop × List AV
 | [] => (True, [])
 | .tmp t :: l => ((resP T tm h l).1, lk tm .any t :: (resP T tm h l).2)
 | .cell a t :: l => match T t with
  | some i => match loadF i h (lk tm .any a) with
   | .out p x _ => (p ∧ (resP T tm h l).1, x :: (resP T tm h l).2)
   | _ => (False, [])
  | none => (False, [])
def resX : List AV → AV
 | [x] => x
 | l => .tup l
def RetQ (T : Tys) (rs : List ResultVar) (ne : Nat) (R : AV → Hl → Prop) : Exit → St → Prop := fun e σ => (e = .normal ∨ e = .ret) ∧ (resP T σ.tm (lk σ.hp .nil) rs).1 ∧
 ∃ l d, finOk ne l ∧ R ((resX (resP T σ.tm (lk σ.hp .nil) rs).2).fin (invP l) (frz (invP l) (lk σ.hp .nil) d)) (finH (lk σ.hp .nil) (invP l) (frz (invP l) (lk σ.hp .nil) d) l)
def resV (tmps : Array Value) : ResultVar → Sem Value
 | .tmp t => pure (tmps.getD t undef)
 | .cell ad t => do loadVar t (← asAddr (tmps.getD ad undef))
theorem results_eq (fn : Func) (tmps : Array Value) : results fn tmps = (fn.results.mapM (resV tmps) >>= fun vs => pure (if h : vs.size = 1 then vs[0] else .tuple vs)) := by
 unfold results
 congr 1
section
variable {P : Program} {T : Tys} {c : Cx} {h : HF}
theorem run_loadF {t : Nat} {i : TI} {x a : AV} {y : Value} {p : Prop} {us : List (Nat × Ob)} (hT : TyOk P T) (ht : T t = some i) (hh : RelH c h) (ha : RelV c h a y) (hp : loadF i h a = .out p x us) (hq : p) :
  ∃ ad v, y = .pointer (some ad) ∧ (loadVar t ad).run P c.w = .ok v c.w ∧ RelV c h x v := by
 cases a with
 | ref r g k j =>
  simp only [loadF] at hp
  split at hp
  ·rename_i g' sz es hr
   cases hpp : partF i sz (nth es k) j with
   | out p' x' us' =>
    rw [hpp] at hp
    simp only [Rs.also] at hp
    injection hp with h1 h2 h3
    subst h1 h2 h3
    obtain ⟨⟨rfl, hk⟩, hp'⟩ := hq
    obtain ⟨hy, hs, hc⟩ := CellsAt.of_ref hh hr hk ha
    obtain ⟨_, v, hrun, hrel⟩ := run_part hT ht hs hc hpp hp'
    exact ⟨_, v, hy, hrun, hrel⟩
   | _ => rw [hpp] at hp; cases hp
  ·cases hp
 | isp f sz es k j =>
  simp only [loadF] at hp
  cases hpp : partF i sz (nth es k) j with
  | out p' x' us' =>
   rw [hpp] at hp
   simp only [Rs.also] at hp
   injection hp with h1 h2 h3
   subst h1 h2 h3
   obtain ⟨hk, hp'⟩ := hq
   obtain ⟨b, o', hy, hs, hc⟩ := CellsAt.of_isp hk ha
   obtain ⟨_, v, hrun, hrel⟩ := run_part hT ht hs hc hpp hp'
   exact ⟨_, v, hy, hrun, hrel⟩
  | _ => rw [hpp] at hp; cases hp
 | _ => cases hp
theorem run_results (hT : TyOk P T) (hh : RelH c h) {nt : Nat} {tm : List (Nat × AV)} {a : Act} (hf : RelF c h nt tm a) : ∀ (rs : List ResultVar), (resP T tm h rs).1 →
  ∃ vs : List Value, (rs.mapM (resV a.tmps)).run P c.w = .ok vs c.w ∧ vs.length = (resP T tm h rs).2.length ∧
   ∀ (i : Nat) (x : AV) (y : Value), (resP T tm h rs).2[i]? = some x → vs[i]? = some y → RelV c h x y
 | [], _ => ⟨[], by simp, rfl, fun i x y hx => by simp [resP] at hx⟩
 | .tmp t :: l, hq => by
  simp only [resP] at hq
  obtain ⟨vs, h1, h2, h3⟩ := run_results hT hh hf l hq
  refine ⟨a.tmps.getD t undef :: vs, by simp [List.mapM_cons, resV, h1], by simp [resP, h2], fun i x y hx hy => ?_⟩
  cases i with
  | zero =>
   simp only [resP, List.getElem?_cons_zero] at hx hy
   injection hx with hx
   injection hy with hy
   subst hx hy
   exact hf.tm t
  | succ i => simp [resP] at hx hy; exact h3 i x y hx hy
 | .cell ad t :: l, hq => by
  simp only [resP] at hq
  cases ht : T t with
  | none => simp [ht] at hq
  | some ti =>
   simp only [ht] at hq
   cases hl : loadF ti h (lk tm .any ad) with
   | out p x us =>
    simp only [hl] at hq
    obtain ⟨vs, h1, h2, h3⟩ := run_results hT hh hf l hq.2
    obtain ⟨b, v, e1, e2, e3⟩ := run_loadF hT ht hh (hf.tm ad) hl hq.1
    have e0 : (resP T tm h (.cell ad t :: l)).2 = x :: (resP T tm h l).2 := by simp [resP, ht, hl]
    refine ⟨v :: vs, by simp only [List.mapM_cons, resV, Sem.run_bind, Sem.run_pure, e1, asAddr, Result.andThen_ok, e2, h1], by rw [e0]; simp [h2], fun i x' y hx hy => ?_⟩
    rw [e0] at hx
    cases i with
    | zero => simp at hx hy; subst hx hy; exact e3
    | succ i => simp at hx hy; exact h3 i x' y hx hy
   | bad => simp [hl] at hq
   | call => simp [hl] at hq
theorem args_lk {c : Cx} {h : HF} (vals : Array Value) : ∀ (ys : List AV) (k : Nat) (t : Nat), (∀ (i : Nat) (u : AV) (v : Value), ys[i]? = some u → vals[k + i]? = some v → RelV c h u v) → ys.length + k = vals.size → RelV c h (lk (argsT k ys) .any t) (vals.getD t undef)
 | [], k, t, _, _ => .any _
 | y :: ys, k, t, hr, hl => by
  simp only [argsT, lk]
  split
  ·rename_i he
   subst he
   have hlt : k < vals.size := by simp at hl; omega
   rw [Array.getD_eq_getD_getElem?, Array.getElem?_eq_getElem hlt]
   exact hr 0 y _ rfl (by simp [hlt])
  ·exact args_lk vals ys (k + 1) t (fun i u v hu hv => hr (i + 1) u v (by simpa using hu) (by rw [show k + (i + 1) = k + 1 + i by omega]; exact hv)) (by simp at hl ⊢; omega)
theorem acall_gen {Q : Exit → St → Prop} {f : Nat} {fn : Func} {cd : Code} {ys : List AV} {hc : Hl} {R : AV → Hl → Prop} {ne nx : Nat} {D : List Oper → St → (St → Prop) → Prop} (hT : TyOk P T) (hD : DSound P fn.ntmps D) (hf : P.funcs[f]? = some fn) (hnm : (fn.name == "runtime.NumGoroutine") = false) (hb : fn.body = some cd)
  (hy : ys.length ≤ fn.ntmps) (hne : ∀ p ∈ hc, p.1 < ne) (hQ : ∀ e σ, Q e σ → ∃ σ', Wk fn.ntmps ne σ σ' ∧ RetQ T fn.results.toList ne R e σ') (h : AW P T fn.ntmps ne D cd Q ⟨nx, argsT 0 ys, hc⟩) : ACall P f ys hc R := by
 refine ⟨⟨fn, cd, hf, hnm, hb⟩, fun c vals hn hh hx => calls_of_wp hf hb ?_⟩
 have hr : Rel c (lk hc .nil) fn.ntmps ⟨nx, argsT 0 ys, hc⟩ c { tmps := vals ++ Array.replicate (fn.ntmps - vals.size) undef, defers := [] } := by
  refine ⟨Keep.refl _ _, hh, ⟨by have := hx.1; simp; omega, rfl, fun t => ?_⟩⟩
  have := args_lk (c := c) (h := lk hc .nil) vals ys 0 t (fun i u v hu hv => hx.2 i u v hu (by simpa using hv)) (by simp [hx.1])
  by_cases hlt : t < vals.size
  ·have e : (vals ++ Array.replicate (fn.ntmps - vals.size) undef).getD t undef = vals.getD t undef := by
    simp only [Array.getD_eq_getD_getElem?]
    rw [Array.getElem?_append_left hlt]
   show RelV c (lk hc .nil) (lk (argsT 0 ys) .any t) _
   rw [e]; exact this
  ·have : lk (argsT 0 ys) .any t = .any := by
    have key : ∀ (ys : List AV) (k : Nat), ys.length + k ≤ t → lk (argsT k ys) .any t = .any := by
     intro ys
     induction ys with
     | nil => intro k _; rfl
     | cons y ys ih =>
      intro k hk
      simp only [argsT, lk, List.length_cons] at hk ⊢
      rw [if_neg (by omega)]
      exact ih (k + 1) (by omega)
    exact key ys 0 (by have := hx.1; omega)
   show RelV c (lk hc .nil) (lk (argsT 0 ys) .any t) _
   rw [this]; exact .any _
 have he : ∀ i, lk hc .nil i ≠ .nil → i < ne := fun i hi => hne _ (lk_mem hi)
 refine wp_mono (aw_sound hT hD he hn cd _ _ c _ h hr) ?_
 rintro e a w ⟨σ0, c0', rfl, hq, hr0⟩
 obtain ⟨σ, hw, hex, hp, l, d, hl, hR⟩ := hQ _ _ hq
 obtain ⟨c', ec, hr'⟩ := hw c _ c0' a he hn hr0
 rw [← ec]
 obtain ⟨vs, r1, r2, r3⟩ := run_results hT hr'.hp hr'.fr fn.results.toList hp
 obtain ⟨c2, e1, e2, e3, e4⟩ := fin_ok (d := d) he hl.1 hl.2.1 hl.2.2 hn hr'.kp hr'.hp
 have hrun : ∃ v, (results fn a.tmps).run P c'.w = .ok v c'.w ∧ RelV c' (lk σ.hp .nil) (resX (resP T σ.tm (lk σ.hp .nil) fn.results.toList).2) v := by
  generalize (resP T σ.tm (lk σ.hp .nil) fn.results.toList).2 = xs at r2 r3
  have hm : (fn.results.mapM (resV a.tmps)).run P c'.w = .ok vs.toArray c'.w := by
   rw [Array.mapM_eq_mapM_toList, Sem.run_map, r1]; rfl
  have htup : RelV c' (lk σ.hp .nil) (.tup xs) (.tuple vs.toArray) := .tup _ _ (by simp [r2]) fun i x y hx hy => r3 i x y hx (by simpa using hy)
  rw [results_eq]
  simp only [Sem.run_bind]
  by_cases h1 : vs.length = 1
  ·obtain ⟨v, rfl⟩ := List.length_eq_one_iff.1 h1
   obtain ⟨x, rfl⟩ := List.length_eq_one_iff.1 (by rw [← r2]; exact h1)
   refine ⟨v, ?_, r3 0 x v rfl rfl⟩
   rw [hm]; simp
  ·refine ⟨.tuple vs.toArray, ?_, ?_⟩
   ·rw [hm]; simp [h1]
   ·have : resX xs = .tup xs := by
     cases xs with
     | nil => rfl
     | cons x l => cases l with
      | nil => simp at r2; exact absurd r2 h1
      | cons y l => rfl
    rw [this]; exact htup
 obtain ⟨v, hv, hrel⟩ := hrun
 rcases hex with rfl | rfl
 all_goals exact ⟨hr'.fr.df, v, hv, v, _, _, c2, rfl, e1, hR, e2, e3, e4 _ _ hrel⟩
theorem acall_of {f : Nat} {fn : Func} {cd : Code} {ys : List AV} {hc : Hl} {R : AV → Hl → Prop} {ne nx : Nat} {D : List Oper → St → (St → Prop) → Prop} (hT : TyOk P T) (hD : DSound P fn.ntmps D) (hf : P.funcs[f]? = some fn) (hnm : (fn.name == "runtime.NumGoroutine") = false) (hb : fn.body = some cd)
  (hy : ys.length ≤ fn.ntmps) (hne : ∀ p ∈ hc, p.1 < ne) (h : AW P T fn.ntmps ne D cd (RetQ T fn.results.toList ne R) ⟨nx, argsT 0 ys, hc⟩) : ACall P f ys hc R :=
 acall_gen hT hD hf hnm hb hy hne (fun _ σ hq => ⟨σ, .rfl', hq⟩) h
def RetW (T : Tys) (nt : Nat) (rs : List ResultVar) (ne : Nat) (R : AV → Hl → Prop) : Exit → St → Prop := fun e σ => ∃ σ', Wk nt ne σ σ' ∧ RetQ T rs ne R e σ'
theorem acall_ofW {f : Nat} {fn : Func} {cd : Code} {ys : List AV} {hc : Hl} {R : AV → Hl → Prop} {ne nx : Nat} {D : List Oper → St → (St → Prop) → Prop} (hT : TyOk P T) (hD : DSound P fn.ntmps D) (hf : P.funcs[f]? = some fn) (hnm : (fn.name == "runtime.NumGoroutine") = false) (hb : fn.body = some cd)
  (hy : ys.length ≤ fn.ntmps) (hne : ∀ p ∈ hc, p.1 < ne) (h : AW P T fn.ntmps ne D cd (RetW T fn.ntmps fn.results.toList ne R) ⟨nx, argsT 0 ys, hc⟩) : ACall P f ys hc R :=
 acall_gen hT hD hf hnm hb hy hne (fun _ _ hq => hq) h
end
end Go.Proofs.YthblfhgofopcaaaGreat

namespace Go.Proofs.YthblfhgofopcaaaGreat
open Go.RowKit
variable [DM]
section
variable {P : Program} {T : Tys} {nt ne : Nat} {D : List Oper → St → (St → Prop) → Prop} {Q : Exit → St → Prop} {σ : St}
theorem AW_seq {a b : Code} (h : ∀ K : St → Prop, (∀ σ, AW P T nt ne D b Q σ → K σ) → AW P T nt ne D a (thenA K Q) σ) : AW P T nt ne D (.seq a b) Q σ := h _ fun σ h => ⟨σ, .rfl', h⟩
theorem AW_reg {id : Nat} {l : List Oper} {nx : Nat} {tm : List (Nat × AV)} {hp : Hl} (h : AOps P T nt l l nx tm hp (Q .normal)) : AW P T nt ne D (.region id l.toArray false) Q ⟨nx, tm, hp⟩ := h
theorem AW_block {i : Nat} {a : Code} (h : AW P T nt ne D a (blockA i Q) σ) : AW P T nt ne D (.block i a) Q σ := h
theorem AW_scope {a : Code} (h : AW P T nt ne D a (scopeA Q) σ) : AW P T nt ne D (.scope a) Q σ := h
theorem AW_label {l : Nat} (h : Q .normal σ) : AW P T nt ne D (.label l) Q σ := h
theorem scope_normal (h : Q .normal σ) : scopeA Q .normal σ := h
theorem scope_exit {i : Nat} (h : Q (.exit i) σ) : scopeA Q (.exit i) σ := h
theorem scope_ret (h : Q .ret σ) : scopeA Q .ret σ := h
theorem AW_exit {i : Nat} (h : Q (.exit i) σ) : AW P T nt ne D (.exit i) Q σ := h
theorem AW_skip (h : Q .normal σ) : AW P T nt ne D .skip Q σ := h
theorem AW_ret (h : Q .ret σ) : AW P T nt ne D .ret Q σ := h
theorem AW_cond {x : Operand} {a b : Code} {t : Bool} (hx : evO σ.tm x = .v (.bool t)) (h : (t = true → AW P T nt ne D a Q σ) ∧ (t = false → AW P T nt ne D b Q σ)) : AW P T nt ne D (.cond x a b) Q σ := by
 show condA (evO σ.tm x) _ _
 rw [hx]; exact h
theorem AW_condT {x : Operand} {a b : Code} (hx : evO σ.tm x = .v (.bool true)) (h : AW P T nt ne D a Q σ) : AW P T nt ne D (.cond x a b) Q σ := AW_cond hx ⟨fun _ => h, fun h => by cases h⟩
theorem AW_condF {x : Operand} {a b : Code} (hx : evO σ.tm x = .v (.bool false)) (h : AW P T nt ne D b Q σ) : AW P T nt ne D (.cond x a b) Q σ := AW_cond hx ⟨(fun h => by cases h), fun _ => h⟩
theorem AW_loop {a : Code} (I : Nat → St → Prop) (l : List (Nat × Nat)) (d : Nat) (ts : List Nat) (nx : Nat) (hl : finOk ne l) (h0 : ∃ n, I n (finS l d ts nx σ))
  (h : ∀ n σ', I n σ' → ∀ K : St → Prop, (∀ m σ'', m < n → I m (finS l d ts nx σ'') → K σ'') → AW P T nt ne D a (thenA K Q) σ') : AW P T nt ne D (.loop a) Q σ := by
 obtain ⟨n, h0⟩ := h0
 exact ⟨I, ⟨n, _, wk_fin hl, h0⟩, fun n σ' hI => h n σ' hI _ fun m σ'' hm hI2 => ⟨m, _, hm, wk_fin hl, hI2⟩⟩
theorem then_normal {K : St → Prop} (h : K σ) : thenA K Q .normal σ := h
theorem then_exit {K : St → Prop} {i : Nat} (h : Q (.exit i) σ) : thenA K Q (.exit i) σ := h
theorem then_ret {K : St → Prop} (h : Q .ret σ) : thenA K Q .ret σ := h
theorem block_normal {i : Nat} (h : Q .normal σ) : blockA i Q .normal σ := h
theorem block_exit {i : Nat} (h : Q .normal σ) : blockA i Q (.exit i) σ := by show if i = i then _ else _; rw [if_pos rfl]; exact h
theorem block_other {i j : Nat} (hj : (j == i) = false) (h : Q (.exit j) σ) : blockA i Q (.exit j) σ := by
 show if j = i then _ else _
 rw [if_neg (by simpa using hj)]; exact h
theorem block_ret {i : Nat} (h : Q .ret σ) : blockA i Q .ret σ := h
end
def ASays (P : Program) (f : Nat) (ys : List AV) (res : AV) : Prop := ACall P f ys [] fun x hl => x = res ∧ hl = []
theorem CallW.says {P : Program} {f : Nat} {xs ys : List AV} {res : AV} {hp : Hl} {nm : Nat} {K : AV → Hl → Prop} (hC : ASays P f ys res) (hy : passL (fun _ => none) (lk hp .nil) xs = ys) (hb : res.allT = true ∨ nobL (fun _ => none) xs = true) (hr : ∀ q, res.ren q = res) (h : K res hp) : CallW P f xs hp nm K := by
 have e : idx 0 [] = fun _ => none := by funext r; rfl
 subst hy
 refine ⟨[], res.allT, _, by rw [e]; exact hC, List.nodup_nil, (fun r h => by cases h), ?_, ?_⟩
 ·rw [e]
  rcases hb with hb | hb
  ·exact .inl hb
  ·exact .inr ⟨hb, (fun r h => by cases h)⟩
 ·rintro x hl ⟨rfl, rfl⟩
  exact ⟨⟨List.nodup_nil, (fun p h => by cases h)⟩, (fun hb => ⟨hb, (fun p h => by cases h)⟩), (fun p h => by cases h), by rw [hr]; exact h⟩
abbrev I (n : Int) : AV := .v (.int .i64 n)
abbrev B (b : Bool) : AV := .v (.bool b)
abbrev eInts (f : Bool) (zs : List Int) : AV := .sl f 1 (zs.map I)
theorem finOk_nil : finOk 0 [] := ⟨(fun i h => absurd h (Nat.not_lt_zero i)), List.nodup_nil, List.nodup_nil⟩
@[go_sem] theorem finL_I (inv : Nat → Option Nat) (F : Nat → Nat → Nat → Nat → AV) (zs : List Int) : finL inv F (zs.map I) = zs.map I := by
 induction zs with
 | nil => rfl
 | cons z zs ih => simp only [List.map_cons, finL, ih]; rfl
@[go_sem] theorem passL_I (inv : Nat → Option Nat) (h : HF) (zs : List Int) : passL inv h (zs.map I) = zs.map I := by
 induction zs with
 | nil => rfl
 | cons z zs ih => simp only [List.map_cons, passL, ih]; rfl
@[go_sem] theorem lowL_I (zs : List Int) : lowL (zs.map I) = zs.map I := by
 induction zs with
 | nil => rfl
 | cons z zs ih => simp only [List.map_cons, lowL, ih]; rfl
@[go_sem] theorem renL_I (q : Nat → Nat) (zs : List Int) : renL q (zs.map I) = zs.map I := by
 induction zs with
 | nil => rfl
 | cons z zs ih => simp only [List.map_cons, renL, ih]; rfl
@[go_sem] theorem nobL_I (inv : Nat → Option Nat) (zs : List Int) : nobL inv (zs.map I) = true := by
 induction zs with
 | nil => rfl
 | cons z zs ih => simp only [List.map_cons, nobL, ih]; rfl
@[go_sem] theorem allTL_I (zs : List Int) : allTL (zs.map I) = true := by
 induction zs with
 | nil => rfl
 | cons z zs ih => simp only [List.map_cons, allTL, ih]; rfl
@[go_sem] theorem nth_zero (x : AV) (l : List AV) : nth (x :: l) 0 = x := rfl
@[go_sem] theorem nth_succ (x : AV) (l : List AV) (k : Nat) : nth (x :: l) (k + 1) = nth l k := rfl
theorem nth_map {α : Type} (f : α → AV) (l : List α) (k : Nat) (h : k < l.length) : nth (l.map f) k = f l[k] := by simp [nth, h]
theorem vwrap_in {n : Int} (h0 : -9223372036854775808 ≤ n) (h1 : n < 9223372036854775808) : IntKind.i64.wrap n = n := by
 rw [IntKind.wrap_i64]; omega
theorem vwrap_add_l (a b : Int) : IntKind.i64.wrap (IntKind.i64.wrap a + b) = IntKind.i64.wrap (a + b) := by
 simp only [IntKind.wrap_i64]; omega
theorem vwrap_succ {k : Nat} (h : k < 9223372036854775807) : IntKind.i64.wrap ((k : Int) + 1) = ((k + 1 : Nat) : Int) := by
 rw [vwrap_in (by omega) (by omega)]; rfl
@[go_sem] theorem take_map {α : Type} (f : α → AV) (l : List α) (n : Nat) : (l.map f).take n = (l.take n).map f := (List.map_take ..).symm
@[go_sem] theorem drop_map {α : Type} (f : α → AV) (l : List α) (n : Nat) : (l.map f).drop n = (l.drop n).map f := (List.map_drop ..).symm
@[go_sem] theorem map_fin (inv : Nat → Option Nat) (F : Nat → Nat → Nat → Nat → AV) (l : List AV) : l.map (AV.fin inv F) = finL inv F l := by
 induction l with
 | nil => rfl
 | cons x l ih => simp only [List.map_cons, finL, ih]
@[go_sem] theorem finL_append (inv : Nat → Option Nat) (F : Nat → Nat → Nat → Nat → AV) (l m : List AV) : finL inv F (l ++ m) = finL inv F l ++ finL inv F m := by
 rw [← map_fin, ← map_fin, ← map_fin, List.map_append]
@[go_sem] theorem lowL_append (l m : List AV) : lowL (l ++ m) = lowL l ++ lowL m := by
 rw [lowL_map, lowL_map, lowL_map, List.map_append]
@[go_sem] theorem app_map {α : Type} (f : α → AV) (l m : List α) : l.map f ++ m.map f = (l ++ m).map f := List.map_append.symm
@[go_sem] theorem app_map1 {α : Type} (f : α → AV) (l : List α) (x : α) : l.map f ++ [f x] = (l ++ [x]).map f := by simp
attribute [go_sem] List.take_length Nat.le_refl List.length_take List.length_drop List.length_append
section
variable (l : List AV) (x : Value) (f : Bool) (a b c d : Nat)
@[go_sem] theorem cs_agg : (AV.agg l).cs = l := rfl
@[go_sem] theorem cs_v : (AV.v x).cs = [.v x] := rfl
@[go_sem] theorem cs_sl : (AV.sl f a l).cs = [.sl f a l] := rfl
@[go_sem] theorem cs_isp : (AV.isp f a l b c).cs = [.isp f a l b c] := rfl
@[go_sem] theorem cs_ref : (AV.ref a b c d).cs = [.ref a b c d] := rfl
@[go_sem] theorem cs_rsl : (AV.rsl a b c d).cs = [.rsl a b c d] := rfl
@[go_sem] theorem cs_clo : (AV.clo a l).cs = [.clo a l] := rfl
@[go_sem] theorem cs_any : AV.any.cs = [.any] := rfl
@[go_sem] theorem cs_tup : (AV.tup l).cs = [.tup l] := rfl
@[go_sem] theorem aggB_agg : aggB (.agg l) = true := rfl
@[go_sem] theorem box_agg : boxable (.agg l) = true := rfl
@[go_sem] theorem box_v : boxable (.v x) = x.oneCell' := rfl
@[go_sem] theorem box_sl : boxable (.sl f a l) = true := rfl
@[go_sem] theorem box_isp : boxable (.isp f a l b c) = true := rfl
@[go_sem] theorem box_ref : boxable (.ref a b c d) = true := rfl
@[go_sem] theorem box_rsl : boxable (.rsl a b c d) = true := rfl
@[go_sem] theorem box_clo : boxable (.clo a l) = true := rfl
@[go_sem] theorem one_v : (AV.v x).one = x.oneCell' := rfl
@[go_sem] theorem one_sl : (AV.sl f a l).one = true := rfl
@[go_sem] theorem one_isp : (AV.isp f a l b c).one = true := rfl
@[go_sem] theorem one_ref : (AV.ref a b c d).one = true := rfl
@[go_sem] theorem one_rsl : (AV.rsl a b c d).one = true := rfl
@[go_sem] theorem one_clo : (AV.clo a l).one = true := rfl
@[go_sem] theorem one_int (k : IntKind) (n : Int) : (Value.int k n).oneCell' = true := rfl
@[go_sem] theorem one_bool (b : Bool) : (Value.bool b).oneCell' = true := rfl
@[go_sem] theorem one_slice (A : Option Addr) : (Value.slice A a b).oneCell' = true := rfl
end
def stepG (g : Gd) (r s : List (Nat × AV) → Prop) (tm : List (Nat × AV)) : Prop := match g with
 | .run => r tm
 | .skip => s tm
 | .ask b t want => match b, want with
  | true, true => r (upd tm t (.v (.bool true)))
  | false, false => r (upd tm t (.v (.bool false)))
  | true, false => s (upd tm t (.v (.bool true)))
  | false, true => s (upd tm t (.v (.bool false)))
 | .bad => False
def stepR (x : Rs) (k : Prop → AV → List (Nat × Ob) → Prop) (c : Nat → List AV → Prop) : Prop := match x with
 | .bad => False
 | .out p x us => k p x us
 | .call f xs => c f xs
@[congr] theorem stepR_congr {x x' : Rs} (h : x = x') (k : Prop → AV → List (Nat × Ob) → Prop) (c : Nat → List AV → Prop) : stepR x k c = stepR x' k c := by rw [h]
section
variable (r s : List (Nat × AV) → Prop) (tm : List (Nat × AV)) (t : Nat)
@[go_sem] theorem stepG_run : stepG .run r s tm = r tm := rfl
@[go_sem] theorem stepG_skip : stepG .skip r s tm = s tm := rfl
@[go_sem] theorem stepG_tt : stepG (.ask true t true) r s tm = r (upd tm t (.v (.bool true))) := rfl
@[go_sem] theorem stepG_ff : stepG (.ask false t false) r s tm = r (upd tm t (.v (.bool false))) := rfl
@[go_sem] theorem stepG_tf : stepG (.ask true t false) r s tm = s (upd tm t (.v (.bool true))) := rfl
@[go_sem] theorem stepG_ft : stepG (.ask false t true) r s tm = s (upd tm t (.v (.bool false))) := rfl
end
@[go_sem] theorem stepR_out (k : Prop → AV → List (Nat × Ob) → Prop) (c : Nat → List AV → Prop) (p : Prop) (x : AV) (us : List (Nat × Ob)) : stepR (.out p x us) k c = k p x us := rfl
@[go_sem] theorem stepR_call (k : Prop → AV → List (Nat × Ob) → Prop) (c : Nat → List AV → Prop) (f : Nat) (xs : List AV) : stepR (.call f xs) k c = c f xs := rfl
def AOps1 (P : Program) (T : Tys) (nt : Nat) (all : List Oper) (o : Oper) (nx : Nat) (tm : List (Nat × AV)) (hp : Hl) (J : Nat → List (Nat × AV) → Hl → Prop) : Prop :=
 stepG (gdF all tm o.guard) (fun tm' => stepR (opF T (evO tm') (lk hp .nil) nx o.op) (fun p x us => dstB nt o.dst ∧ p ∧ lk hp .nil nx = .nil ∧ J (nx + 16) (putT tm' o.dst x) (upsL us hp))
  (fun f xs => dstB nt o.dst ∧ CallW P f xs hp nx fun x hp' => J (nx + 16) (putT tm' o.dst x) hp')) (fun tm' => dstB nt o.dst ∧ J nx (putT tm' o.dst (.v undef)) hp) tm
theorem AOps_eq (P : Program) (T : Tys) (nt : Nat) (all : List Oper) (o : Oper) (os : List Oper) (nx : Nat) (tm : List (Nat × AV)) (hp : Hl) (K : St → Prop) : AOps P T nt all (o :: os) nx tm hp K = AOps1 P T nt all o nx tm hp fun nx tm hp => AOps P T nt all os nx tm hp K := by
 rw [AOps]
 unfold AOps1
 generalize gdF all tm o.guard = g
 cases g with
 | ask b t want => cases b <;> cases want <;> rfl
 | _ => rfl
theorem AOps_one {P : Program} {T : Tys} {nt : Nat} {all : List Oper} {o : Oper} {os : List Oper} {nx : Nat} {tm : List (Nat × AV)} {hp : Hl} {K : St → Prop}
  (h : ∀ J : Nat → List (Nat × AV) → Hl → Prop, (∀ nx tm hp, AOps P T nt all os nx tm hp K → J nx tm hp) → AOps1 P T nt all o nx tm hp J) : AOps P T nt all (o :: os) nx tm hp K := by
 rw [AOps_eq]; exact h _ fun _ _ _ h => h
theorem AOps_end {P : Program} {T : Tys} {nt : Nat} {all : List Oper} {nx : Nat} {tm : List (Nat × AV)} {hp : Hl} {K : St → Prop} (h : K ⟨nx, tm, hp⟩) : AOps P T nt all [] nx tm hp K := h
attribute [go_sem] AOps1
attribute [go_sem] capF copyF minF maxF gdF dstB opF evO lk upd putT upsL argsT callF lenF Rs.pure pickF partF Rs.also loadF setE storeF fieldPtrF fieldValF indexPtrF unF convF nilCheckF intF isNilF binF eqA eqIt indexF fillF placesF buildF fillE buildSliceF makeSliceF extractF makeFuncF intOf? sliceF readF appendF zeroE
attribute [go_sem] thenA blockA finS finH finO invP frz AV.fin finL RetQ resP resX
attribute [go_sem] idx entry passO AV.pass passL AV.low lowL AV.nob nobL AV.ren renL AV.allT allTL mrgL rn renO obT
end Go.Proofs.YthblfhgofopcaaaGreat
