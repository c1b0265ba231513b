/-
  Parts of the proof: VmX, VmY, VmZ, PkA, VmW.
-/
import Derived.Test.YthblfhgofopcaaaGreatHA13
set_option linter.all false
namespace Go.Proofs.YthblfhgofopcaaaGreat
open Go.RowKit
variable [DM]
def lkO : List (Nat × List Nat × List Nat) → Nat → List Nat × List Nat
 | [], _ => ([], [])
 | p :: l, i => if p.1 = i then p.2 else lkO l i
section
variable {P : Program} {T : Tys} {nt ne : Nat} {Q : Exit → St → Prop}
theorem AW_regD (tb : List (Nat × List Nat × List Nat)) {id : Nat} {l : List Oper} {nx : Nat} {tm : List (Nat × AV)} {hp : Hl} {ord ms : List Nat} (hl : lkO tb id = (ord, ms)) (hok : drawOk l ord ms = true) (h : AD P T nt l ms nx ord tm hp [] [] (Q .normal)) : AW P T nt ne (DD P T nt) (.region id l.toArray true) Q ⟨nx, tm, hp⟩ :=
 ⟨ord, ms, hok, h⟩
theorem CallD.says {f : Nat} {xs ys : List AV} {res : AV} {hp : Hl} {nm : Nat} {C : List Nat → Prop} {K : AV → Hl → Prop} (hC : ASays P f ys res) (hy : passL (fun _ => none) (lk hp .nil) xs = ys) (hc : C []) (hb : res.allT = true ∨ nobL (fun _ => none) xs = true) (hr : ∀ q, res.ren q = res) (h : K res hp) : CallD P f xs hp nm C K := by
 have e : idx 0 [] = fun _ => none := by funext r; rfl
 subst hy
 refine ⟨[], res.allT, _, hc, by rw [e]; exact hC, List.nodup_nil, (fun r h => by cases h), ?_, ?_⟩
 ·rw [e]
  rcases hb with hb | hb
  ·exact .inl hb
  ·exact .inr ⟨hb, (fun r h => by cases h)⟩
 ·rintro x hl ⟨rfl, rfl⟩
  exact ⟨⟨List.nodup_nil, (fun p h => by cases h)⟩, (fun hb => ⟨hb, (fun p h => by cases h)⟩), (fun p h => by cases h), by rw [hr]; exact h⟩
end
def stepO (x : Option Oper) (k : Oper → Prop) : Prop := match x with
 | none => False
 | some o => k o
def stepB (b : Bool) (k1 k2 : Prop) : Prop := match b with
 | true => k1
 | false => k2
@[go_sem] theorem stepO_some (o : Oper) (k : Oper → Prop) : stepO (some o) k = k o := rfl
@[go_sem] theorem stepB_true (k1 k2 : Prop) : stepB true k1 k2 = k1 := rfl
@[go_sem] theorem stepB_false (k1 k2 : Prop) : stepB false k1 k2 = k2 := rfl
def AD1 (P : Program) (T : Tys) (nt : Nat) (all : List Oper) (ms : List Nat) (base j : Nat) (o : Oper) (tm : List (Nat × AV)) (hp : Hl) (fT : List (Nat × List Nat)) (fW : List (Nat × Nat)) (J : List (Nat × AV) → Hl → List (Nat × List Nat) → List (Nat × Nat) → Prop) : Prop :=
 stepG (gdF all tm o.guard) (fun tm' => stepR (opF T (evO tm') (lk hp .nil) (base + 16 * j) o.op)
  (fun p x us => dstB nt o.dst ∧ p ∧ lk hp .nil (base + 16 * j) = .nil ∧ chkT ms fW j (touchL (evO tm') (opdT o.op)) = true ∧
   stepB (effB o.op) (chkE ms fT fW j (us.map (·.1)) = true ∧ J (putT tm' o.dst x) (upsL us hp) fT fW)
    ((us.map (·.1)).all (chkN fT (touchL (evO tm') (opdT o.op))) = true ∧ J (putT tm' o.dst x) (upsL us hp) (addT j (touchL (evO tm') (opdT o.op)) fT) (addW j (us.map (·.1)) fW)))
  (fun f xs => dstB nt o.dst ∧ chkT ms fW j (touchL (evO tm') (opdT o.op)) = true ∧ CallD P f xs hp (base + 16 * j) (fun ρ => chkC (base + 16 * j) ms fT fW j ρ xs (ρ.map (lk hp .nil)) = true) fun x hp' => J (putT tm' o.dst x) hp' fT fW))
  (fun tm' => dstB nt o.dst ∧ lk hp .nil (base + 16 * j) = .nil ∧ J (putT tm' o.dst (.v undef)) hp fT fW) tm
theorem AD_eq (P : Program) (T : Tys) (nt : Nat) (all : List Oper) (ms : List Nat) (base j : Nat) (os : List Nat) (tm : List (Nat × AV)) (hp : Hl) (fT : List (Nat × List Nat)) (fW : List (Nat × Nat)) (K : St → Prop) (o : Oper) (ho : all[j]? = some o) : AD P T nt all ms base (j :: os) tm hp fT fW K =
  AD1 P T nt all ms base j o tm hp fT fW fun tm hp fT fW => AD P T nt all ms base os tm hp fT fW K := by
 rw [AD, ho]
 unfold AD1
 dsimp only
 generalize gdF all tm o.guard = g
 cases g with
 | ask b t want =>
  cases b <;> cases want
  ·dsimp only [stepG]
   generalize opF T (evO (upd tm t (.v (.bool false)))) (lk hp .nil) (base + 16 * j) o.op = x
   generalize effB o.op = e
   cases x <;> cases e <;> rfl
  ·rfl
  ·rfl
  ·dsimp only [stepG]
   generalize opF T (evO (upd tm t (.v (.bool true)))) (lk hp .nil) (base + 16 * j) o.op = x
   generalize effB o.op = e
   cases x <;> cases e <;> rfl
 | run =>
  dsimp only [stepG]
  generalize opF T (evO tm) (lk hp .nil) (base + 16 * j) o.op = x
  generalize effB o.op = e
  cases x <;> cases e <;> rfl
 | _ => rfl
theorem AD_one {P : Program} {T : Tys} {nt : Nat} {all : List Oper} {ms : List Nat} {base j : Nat} {os : List Nat} {tm : List (Nat × AV)} {hp : Hl} {fT : List (Nat × List Nat)} {fW : List (Nat × Nat)} {K : St → Prop} {o : Oper} (ho : all[j]? = some o)
  (h : ∀ J : List (Nat × AV) → Hl → List (Nat × List Nat) → List (Nat × Nat) → Prop, (∀ tm hp fT fW, AD P T nt all ms base os tm hp fT fW K → J tm hp fT fW) → AD1 P T nt all ms base j o tm hp fT fW J) : AD P T nt all ms base (j :: os) tm hp fT fW K := by
 rw [AD_eq P T nt all ms base j os tm hp fT fW K o ho]; exact h _ fun _ _ _ _ h => h
theorem AD_end {P : Program} {T : Tys} {nt : Nat} {all : List Oper} {ms : List Nat} {base : Nat} {tm : List (Nat × AV)} {hp : Hl} {fT : List (Nat × List Nat)} {fW : List (Nat × Nat)} {K : St → Prop} (h : K ⟨base + 16 * all.length, tm, hp⟩) : AD P T nt all ms base [] tm hp fT fW K := h
attribute [go_sem] AD1
attribute [go_sem] chkT chkN chkE chkC addT addW hit touchL tops opdL opdT effB bit AV.away awayL awayO
end Go.Proofs.YthblfhgofopcaaaGreat

namespace Go.Proofs.YthblfhgofopcaaaGreat
open Go.RowKit
section DMs
variable [DM]
section
variable {α : Type} {e e' : α → AV} {inv : Nat → Option Nat} {h : HF} {F : Nat → Nat → Nat → Nat → AV} {q : Nat → Nat}
theorem passL_enc (he : ∀ x, (e x).pass inv h = e' x) (l : List α) : passL inv h (l.map e) = l.map e' := by
 induction l with
 | nil => rfl
 | cons z zs ih => simp only [List.map_cons, passL, ih, he]
theorem finL_enc (he : ∀ x, (e x).fin inv F = e' x) (l : List α) : finL inv F (l.map e) = l.map e' := by
 induction l with
 | nil => rfl
 | cons z zs ih => simp only [List.map_cons, finL, ih, he]
theorem lowL_enc (he : ∀ x, (e x).low = e' x) (l : List α) : lowL (l.map e) = l.map e' := by
 induction l with
 | nil => rfl
 | cons z zs ih => simp only [List.map_cons, lowL, ih, he]
theorem renL_enc (he : ∀ x, (e x).ren q = e' x) (l : List α) : renL q (l.map e) = l.map e' := by
 induction l with
 | nil => rfl
 | cons z zs ih => simp only [List.map_cons, renL, ih, he]
theorem nobL_enc (he : ∀ x, (e x).nob inv = true) (l : List α) : nobL inv (l.map e) = true := by
 induction l with
 | nil => rfl
 | cons z zs ih => simp only [List.map_cons, nobL, ih, he]; rfl
theorem allTL_enc (he : ∀ x, (e x).allT = true) (l : List α) : allTL (l.map e) = true := by
 induction l with
 | nil => rfl
 | cons z zs ih => simp only [List.map_cons, allTL, ih, he]; rfl
theorem awayL_enc {r : Nat} (he : ∀ x, (e x).away r = true) (l : List α) : awayL r (l.map e) = true := by
 induction l with
 | nil => rfl
 | cons z zs ih => simp only [List.map_cons, awayL, ih, he]; rfl
end
theorem one_map {α : Type} {e : α → AV} (he : ∀ x, ∀ v ∈ (e x).cs, v.one = true) (l : List α) : (∀ u ∈ l.map e, ∀ v ∈ u.cs, v.one = true) = True := by
 simp only [List.mem_map, forall_exists_index, and_imp, forall_apply_eq_imp_iff₂, eq_iff_iff, iff_true]
 exact fun x _ => he x
@[go_sem] theorem awayL_I (r : Nat) (zs : List Int) : awayL r (zs.map I) = true := awayL_enc (fun _ => rfl) zs
@[go_sem] theorem one_I (l : List Int) : (∀ u ∈ l.map I, ∀ v ∈ u.cs, v.one = true) = True := one_map (fun x v hv => by simp [AV.cs] at hv; subst hv; rfl) l
end DMs
theorem asays_gives {P : Program} {f : Nat} {ys : List AV} {x : Value} (hE : Ent P f) (h : ∀ (c : Cx) (vals : Array Value), RelL c (fun _ => .nil) ys vals → Calls P f vals c.w fun e w' => e = .returned x ∧ Grow c.w w') : ASays P f ys (.v x) := by
 refine ⟨hE, fun c vals _ _ hx => (h c vals hx).mono ?_⟩
 rintro e w' ⟨rfl, g⟩
 exact ⟨x, .v x, [], { c with w := w' }, rfl, rfl, ⟨rfl, rfl⟩, Keep.grow g (.inl rfl), ⟨(fun r g sz es hr => by cases hr), (fun r g sz es hr => by cases hr), (fun r r1 g g1 sz sz1 es es1 hr => by cases hr)⟩, .v x⟩
end Go.Proofs.YthblfhgofopcaaaGreat

namespace Go.Proofs.YthblfhgofopcaaaGreat
open Go.RowKit
variable [DM]
def nilA : AV := .v (.slice none 0 0)
section
variable {nt ne : Nat} {σ : St}
theorem virt_obj {c : Cx} {h : HF} (hh : RelH c h) {nm : Nat} (hn : h nm = .nil) (gn sz : Nat) : ∃ c' : Cx, c'.w = c.w ∧ Keep c h c' (ups [(nm, .arr gn sz [])] h) ∧ RelH c' (ups [(nm, .arr gn sz [])] h) ∧ RelV c' (ups [(nm, .arr gn sz [])] h) (.rsl nm gn 0 0) (.slice none 0 0) := by
 have e1 : ups [(nm, .arr gn sz [])] h nm = .arr gn sz [] := by simp [ups]
 have e2 : ∀ r, r ≠ nm → ups [(nm, .arr gn sz [])] h r = h r := fun r hr => by simp [ups, hr]
 have hne : ∀ r ob, h r = ob → (match ob with | .nil => False | _ => True) → r ≠ nm := fun r ob h1 h2 h3 => by
  subst h3; rw [hn] at h1; subst h1; exact h2
 let c' : Cx := { c with rl := fun r => if r = nm then false else c.rl r }
 have r1 : c'.rl nm = false := by simp [c']
 have r2 : ∀ r, r ≠ nm → c'.rl r = c.rl r := fun r hr => by simp [c', hr]
 have K : Keep c h c' (ups [(nm, .arr gn sz [])] h) := {
  dr := .inr (Nat.le_refl _)
  os := rfl
  tape := rfl
  output := rfl
  size := Nat.le_refl _
  blk := fun _ _ _ => rfl
  dd := fun r hr => by rw [e2 r (hne r _ hr trivial)]; exact hr
  ar := fun r g1 s1 es1 hr => by
   have hq := hne r _ hr trivial
   exact .inr ⟨g1, es1, by rw [e2 r hq]; exact hr, Nat.le_refl _, fun _ => ⟨rfl, r2 r hq, fun _ cs t hcs => ⟨cs, hcs, rfl⟩⟩⟩
  fr := fun r g1 s1 es1 hr hl => by
   by_cases hq : r = nm
   ·subst hq; rw [r1] at hl; cases hl
   ·exact .inr ⟨g1, es1, by rw [← e2 r hq]; exact hr, by rw [← r2 r hq]; exact hl, rfl⟩
  okT := rfl
  okF := rfl
  n0 := rfl }
 refine ⟨c', rfl, K, ⟨?_, ?_, ?_⟩, .rsl _ _ _ _ _ rfl ?_⟩
 ·intro r g1 s1 es1 hr hl
  by_cases hq : r = nm
  ·subst hq; rw [r1] at hl; cases hl
  ·rw [e2 r hq] at hr; rw [r2 r hq] at hl
   obtain ⟨cs, t, h1, h2, h3, h4⟩ := hh.ar r g1 s1 es1 hr hl
   exact ⟨cs, t, h1, h2, h3, fun i e j x he hj => by
    obtain ⟨y, hy, hv⟩ := h4 i e j x he hj
    exact ⟨y, hy, hv.ext K.ext⟩⟩
 ·intro r g1 s1 es1 hr hl
  by_cases hq : r = nm
  ·subst hq; rw [e1] at hr; injection hr with _ _ h3; exact h3.symm
  ·rw [e2 r hq] at hr; rw [r2 r hq] at hl
   exact hh.em r g1 s1 es1 hr hl
 ·intro r r' g1 g2 s1 s2 es1 es2 hr hr' hl hl' hb
  by_cases hq : r = nm
  ·subst hq; rw [r1] at hl; cases hl
  by_cases hq' : r' = nm
  ·subst hq'; rw [r1] at hl'; cases hl'
  rw [e2 r hq] at hr; rw [e2 r' hq'] at hr'; rw [r2 r hq] at hl; rw [r2 r' hq'] at hl'
  exact hh.inj r r' g1 g2 s1 s2 es1 es2 hr hr' hl hl' hb
 ·rw [e1]
  exact ⟨Nat.le_refl _, fun _ => ⟨none, 0, rfl, Nat.le_refl _, Nat.zero_le _, fun h0 => absurd h0 (Nat.lt_irrefl 0)⟩⟩
def virtT (t nm gn sz : Nat) (σ : St) : St := ⟨σ.nx, upd σ.tm t (.rsl nm gn 0 0), upd σ.hp nm (.arr gn sz [])⟩
theorem wk_virtT (t nm gn sz : Nat) (h1 : lk σ.tm .any t = nilA) (h2 : lk σ.hp .nil nm = .nil) : Wk nt ne σ (virtT t nm gn sz σ) := fun c0 h0 c a he hn hr => by
 obtain ⟨c', e, k, r, v⟩ := virt_obj hr.hp h2 gn sz
 have eh : lk (virtT t nm gn sz σ).hp .nil = ups [(nm, .arr gn sz [])] (lk σ.hp .nil) := by
  funext q; simp only [virtT, lk_upd, ups, List.foldl]
  by_cases hq : nm = q
  ·simp [hq]
  ·simp [hq, Ne.symm hq]
 refine ⟨c', e, ⟨by rw [eh]; exact hr.kp.trans k, by rw [eh]; exact r, hr.fr.sz, hr.fr.df, fun s => ?_⟩⟩
 rw [eh]
 simp only [virtT, lk_upd]
 split
 ·rename_i hs
  subst hs
  have := hr.fr.tm t
  rw [h1] at this
  rw [inv_v this]
  exact v
 ·exact (hr.fr.tm s).ext k.ext
def virtO (r g s nm gn sz : Nat) (σ : St) : St := ⟨σ.nx, σ.tm, upd (upd σ.hp nm (.arr gn sz [])) r (.arr g s [.rsl nm gn 0 0])⟩
theorem wk_virtO (r g s nm gn sz : Nat) (h1 : lk σ.hp .nil r = .arr g s [nilA]) (h2 : lk σ.hp .nil nm = .nil) : Wk nt ne σ (virtO r g s nm gn sz σ) := fun c0 h0 c a he hn hr => by
 obtain ⟨c', e, k, rh, v⟩ := virt_obj hr.hp h2 gn sz
 have hne : r ≠ nm := fun hq => by rw [hq, h2] at h1; cases h1
 have hr1 : ups [(nm, .arr gn sz [])] (lk σ.hp .nil) r = .arr g s [nilA] := by simp [ups, hne, h1]
 have hl : c'.rl r = true := by
  cases hl : c'.rl r with
  | true => rfl
  | false => have := rh.em r g s [nilA] hr1 hl; cases this
 obtain ⟨cs, ty, a1, a2, a3, a4⟩ := rh.ar r g s [nilA] hr1 hl
 obtain ⟨k2, rh2, e2⟩ := set_obj rh (g' := g) (es' := [.rsl nm gn 0 0]) (cs' := cs) hr1 hl a1 rfl (Nat.le_refl _) (by simpa using a2) (fun i x hx => by
   cases i with
   | zero => simp at hx; subst hx; exact a3 0 nilA rfl
   | succ i => simp at hx) (fun i x j u hx hj => by
   cases i with
   | zero =>
    simp at hx
    subst hx
    cases j with
    | zero =>
     simp [AV.cs] at hj
     subst hj
     obtain ⟨y, hy, hv⟩ := a4 0 nilA 0 nilA rfl rfl
     refine ⟨y, hy, ?_⟩
     rw [inv_v hv]
     exact v
    | succ j => simp [AV.cs] at hj
   | succ i => simp at hx) c'.w (fun _ _ => rfl) a1 rfl rfl rfl rfl rfl
 have eh : lk (virtO r g s nm gn sz σ).hp .nil = ups [(r, .arr g s [.rsl nm gn 0 0])] (ups [(nm, .arr gn sz [])] (lk σ.hp .nil)) := by
  funext q; simp only [virtO, lk_upd, ups, List.foldl]
  by_cases hq : r = q
  ·simp [hq]
  ·by_cases hq' : nm = q
   ·subst hq'; simp [hq, Ne.symm hq]
   ·simp [hq, Ne.symm hq, hq', Ne.symm hq']
 refine ⟨_, e, ⟨by rw [eh]; exact hr.kp.trans (k.trans k2), by rw [eh]; exact rh2, hr.fr.sz, hr.fr.df, fun q => ?_⟩⟩
 rw [eh]
 exact (hr.fr.tm q).ext (k.trans k2).ext
end
section
variable {P : Program} {T : Tys} {nt ne : Nat} {D : List Oper → St → (St → Prop) → Prop} {Q : Exit → St → Prop} {σ : St}
theorem AW_for {a : Code} (n : Nat) (R : Nat → Prop) (S : Nat → St) (l : List (Nat × Nat)) (d : Nat) (ts : List Nat) (nx : Nat) (hl : finOk ne l) (h0 : R 0) (h1 : finS l d ts nx σ = S 0)
  (h : ∀ k, k ≤ n → R k → ∀ K : St → Prop, (∀ σ'', k < n → R (k + 1) → finS l d ts nx σ'' = S (k + 1) → K σ'') → AW P T nt ne D a (thenA K Q) (S k)) : AW P T nt ne D (.loop a) Q σ := by
 refine AW_loop (fun m σ => ∃ k, k ≤ n ∧ m = n - k ∧ R k ∧ σ = S k) l d ts nx hl ⟨_, 0, Nat.zero_le _, rfl, h0, h1⟩ ?_
 rintro m σ' ⟨k, hk, rfl, hR, rfl⟩ K hK
 exact h k hk hR K fun σ'' hlt hR' he => hK _ σ'' (by omega) ⟨k + 1, hlt, rfl, hR', he⟩
theorem AW_loop2 {a : Code} (I : Nat → St → Prop) (l0 l : List (Nat × Nat)) (d : Nat) (ts : List Nat) (nx : Nat) (hl0 : finOk ne l0) (hl : finOk ne l) (h0 : ∃ n, I n (finS l0 d ts nx σ))
  (h : ∀ n σ', I n σ' → ∀ K : St → Prop, (∀ m σ'', m < n → I m (finS l d ts nx σ'') → K σ'') → AW P T nt ne D a (thenA K Q) σ') : AW P T nt ne D (.loop a) Q σ := by
 obtain ⟨n, h0⟩ := h0
 exact ⟨I, ⟨n, _, wk_fin hl0, h0⟩, fun n σ' hI => h n σ' hI _ fun m σ'' hm hI2 => ⟨m, _, hm, wk_fin hl, hI2⟩⟩
theorem AW_loopW2 {a : Code} (I : Nat → St → Prop) {σ0 : St} (hw : Wk nt ne σ σ0) (l0 l : List (Nat × Nat)) (d : Nat) (ts : List Nat) (nx : Nat) (hl0 : finOk ne l0) (hl : finOk ne l) (h0 : ∃ n, I n (finS l0 d ts nx σ0))
  (h : ∀ n σ', I n σ' → ∀ K : St → Prop, (∀ m σ'' σ3, m < n → Wk nt ne σ'' σ3 → I m (finS l d ts nx σ3) → K σ'') → AW P T nt ne D a (thenA K Q) σ') : AW P T nt ne D (.loop a) Q σ := by
 obtain ⟨n, h0⟩ := h0
 exact ⟨I, ⟨n, _, hw.trans (wk_fin hl0), h0⟩, fun n σ' hI => h n σ' hI _ fun m σ'' σ3 hm hw hI2 => ⟨m, _, hm, hw.trans (wk_fin hl), hI2⟩⟩
theorem AW_for2 {a : Code} (n : Nat) (R : Nat → Prop) (S : Nat → St) (l0 l : List (Nat × Nat)) (d : Nat) (ts : List Nat) (nx : Nat) (hl0 : finOk ne l0) (hl : finOk ne l) (h0 : R 0) (h1 : finS l0 d ts nx σ = S 0)
  (h : ∀ k, k ≤ n → R k → ∀ K : St → Prop, (∀ σ'', k < n → R (k + 1) → finS l d ts nx σ'' = S (k + 1) → K σ'') → AW P T nt ne D a (thenA K Q) (S k)) : AW P T nt ne D (.loop a) Q σ := by
 refine AW_loop2 (fun m σ => ∃ k, k ≤ n ∧ m = n - k ∧ R k ∧ σ = S k) l0 l d ts nx hl0 hl ⟨_, 0, Nat.zero_le _, rfl, h0, h1⟩ ?_
 rintro m σ' ⟨k, hk, rfl, hR, rfl⟩ K hK
 exact h k hk hR K fun σ'' hlt hR' he => hK _ σ'' (by omega) ⟨k + 1, hlt, rfl, hR', he⟩
theorem AW_forS2 {a : Code} (n : Nat) (S : Nat → St → Prop) {σ0 : St} (hw : Wk nt ne σ σ0) (l0 l : List (Nat × Nat)) (d : Nat) (ts : List Nat) (nx : Nat) (hl0 : finOk ne l0) (hl : finOk ne l) (h1 : S 0 (finS l0 d ts nx σ0))
  (h : ∀ k σ', k ≤ n → S k σ' → ∀ K : St → Prop, (∀ σ'', k < n → S (k + 1) (finS l d ts nx σ'') → K σ'') → AW P T nt ne D a (thenA K Q) σ') : AW P T nt ne D (.loop a) Q σ := by
 refine AW_loopW2 (fun m σ => ∃ k, k ≤ n ∧ m = n - k ∧ S k σ) hw l0 l d ts nx hl0 hl ⟨_, 0, Nat.zero_le _, rfl, h1⟩ ?_
 rintro m σ' ⟨k, hk, rfl, hS⟩ K hK
 exact h k σ' hk hS K fun σ'' hlt hS' => hK _ σ'' σ'' (by omega) .rfl' ⟨k + 1, hlt, rfl, hS'⟩
theorem finOk0 {l : List (Nat × Nat)} (h1 : (l.map (·.1)).Nodup) (h2 : (l.map (·.2)).Nodup) : finOk 0 l := ⟨fun i h => absurd h (Nat.not_lt_zero i), h1, h2⟩
end
theorem asays_res {P : Program} {f : Nat} {ys : List AV} {x x' : AV} (hx : ∀ c h y, RelV c h x y → RelV c h x' y) (h : ASays P f ys x) : ASays P f ys x' := by
 refine ⟨h.1, fun c vals hn hh hr => (h.2 c vals hn hh hr).mono ?_⟩
 rintro e w' ⟨v, y, hl, c', e1, e2, ⟨rfl, rfl⟩, k1, k2, k3⟩
 exact ⟨v, x', [], c', e1, e2, ⟨rfl, rfl⟩, k1, k2, hx _ _ _ k3⟩
theorem rel_nil {c : Cx} {h : HF} {f : Bool} {sz : Nat} {y : Value} (k : RelV c h (.v (.slice none 0 0)) y) : RelV c h (.sl f sz []) y := by
 rw [inv_v k]; exact .slE f sz none 0 (Nat.zero_le _)
theorem rel_slE {c : Cx} {h : HF} {f : Bool} {sz : Nat} {y : Value} (k : RelV c h (.sl f sz []) y) : ∃ A cap, cap ≤ maxLen ∧ y = .slice A 0 cap := by
 cases k with
 | slE _ _ A cap hc => exact ⟨A, cap, hc, rfl⟩
 | sl _ _ _ b o cap ys h1 h2 => exact ⟨_, _, h2, rfl⟩
theorem asays_arg0 {P : Program} {f : Nat} {fl : Bool} {sz : Nat} {ys : List AV} {x : AV} (h : ∀ A cap, cap ≤ maxLen → ASays P f (.v (.slice A 0 cap) :: ys) x) : ASays P f (.sl fl sz [] :: ys) x := by
 refine ⟨(h none 0 (Nat.zero_le _)).1, fun c vals hn hh hr => ?_⟩
 obtain ⟨hs, hi⟩ := hr
 have h0 : 0 < vals.size := by rw [hs]; simp
 obtain ⟨A, cap, hc, he⟩ := rel_slE (hi 0 _ vals[0] rfl (by simp [h0]))
 refine (h A cap hc).2 c vals hn hh ⟨by rw [hs]; rfl, fun i u v hu hv => ?_⟩
 cases i with
 | zero =>
  simp at hu
  subst hu
  rw [show vals[0]? = some vals[0] by simp [h0]] at hv
  injection hv with hv
  rw [← hv, he]
  exact .v _
 | succ i => exact hi (i + 1) u v (by simpa using hu) hv
theorem acall_arg0 {P : Program} {f : Nat} {fl : Bool} {sz : Nat} {ys : List AV} {R : AV → Hl → Prop} (h : ∀ A cap, cap ≤ maxLen → ACall P f (.v (.slice A 0 cap) :: ys) [] R) : ACall P f (.sl fl sz [] :: ys) [] R := by
 refine ⟨(h none 0 (Nat.zero_le _)).1, fun c vals hn hh hr => ?_⟩
 obtain ⟨hs, hi⟩ := hr
 have h0 : 0 < vals.size := by rw [hs]; simp
 obtain ⟨A, cap, hc, he⟩ := rel_slE (hi 0 _ vals[0] rfl (by simp [h0]))
 refine (h A cap hc).2 c vals hn hh ⟨by rw [hs]; rfl, fun i u v hu hv => ?_⟩
 cases i with
 | zero =>
  simp at hu
  subst hu
  rw [show vals[0]? = some vals[0] by simp [h0]] at hv
  injection hv with hv
  rw [← hv, he]
  exact .v _
 | succ i => exact hi (i + 1) u v (by simpa using hu) hv
def AOwn (P : Program) (f : Nat) (ys : List AV) (res : AV) (obs : Hl) : Prop := ACall P f ys [] fun x hl => x = res ∧ hl = obs
theorem CallW.own {P : Program} {f : Nat} {xs ys : List AV} {res : AV} {obs hp : Hl} {nm : Nat} {K : AV → Hl → Prop} (hC : AOwn P f ys res obs) (hy : passL (fun _ => none) (lk hp .nil) xs = ys) (hb : (res.allT = true ∧ ∀ p ∈ obs, obT p.2 = true) ∨ nobL (fun _ => none) xs = true)
  (hcl : Clean obs) (hf : ∀ p ∈ obs, lk hp .nil (nm + p.1) = .nil) (h : K (res.ren (rn nm [])) (mrgL (rn nm []) obs hp)) : CallW P f xs hp nm K := by
 have e : idx 0 [] = fun _ => none := by funext r; rfl
 subst hy
 rcases hb with ⟨hb1, hb2⟩ | hb
 ·refine ⟨[], true, _, by rw [e]; exact hC, List.nodup_nil, (fun r h => by cases h), .inl rfl, ?_⟩
  rintro x hl ⟨rfl, rfl⟩
  exact ⟨hcl, (fun _ => ⟨hb1, hb2⟩), (fun p hp _ => hf p hp), h⟩
 ·refine ⟨[], false, _, by rw [e]; exact hC, List.nodup_nil, (fun r h => by cases h), .inr ⟨by rw [e]; exact hb, (fun r h => by cases h)⟩, ?_⟩
  rintro x hl ⟨rfl, rfl⟩
  exact ⟨hcl, (fun h => by cases h), (fun p hp _ => hf p hp), h⟩
theorem CallD.own {P : Program} {f : Nat} {xs ys : List AV} {res : AV} {obs hp : Hl} {nm : Nat} {C : List Nat → Prop} {K : AV → Hl → Prop} (hC : AOwn P f ys res obs) (hy : passL (fun _ => none) (lk hp .nil) xs = ys) (hc : C []) (hb : (res.allT = true ∧ ∀ p ∈ obs, obT p.2 = true) ∨ nobL (fun _ => none) xs = true)
  (hcl : Clean obs) (hf : ∀ p ∈ obs, p.1 < 16 ∧ lk hp .nil (nm + p.1) = .nil) (h : K (res.ren (rn nm [])) (mrgL (rn nm []) obs hp)) : CallD P f xs hp nm C K := by
 have e : idx 0 [] = fun _ => none := by funext r; rfl
 subst hy
 rcases hb with ⟨hb1, hb2⟩ | hb
 ·refine ⟨[], true, _, hc, by rw [e]; exact hC, List.nodup_nil, (fun r h => by cases h), .inl rfl, ?_⟩
  rintro x hl ⟨rfl, rfl⟩
  exact ⟨hcl, (fun _ => ⟨hb1, hb2⟩), (fun p hp _ => hf p hp), h⟩
 ·refine ⟨[], false, _, hc, by rw [e]; exact hC, List.nodup_nil, (fun r h => by cases h), .inr ⟨by rw [e]; exact hb, (fun r h => by cases h)⟩, ?_⟩
  rintro x hl ⟨rfl, rfl⟩
  exact ⟨hcl, (fun h => by cases h), (fun p hp _ => hf p hp), h⟩
theorem clean1 {i : Nat} {o : Ob} (h : o ≠ .nil) : Clean [(i, o)] := ⟨by simp, fun p hp => by simp at hp; subst hp; exact h⟩
theorem clean2 {i j : Nat} {o o' : Ob} (hij : i ≠ j) (h : o ≠ .nil) (h' : o' ≠ .nil) : Clean [(i, o), (j, o')] := ⟨by simp [hij], fun p hp => by simp at hp; rcases hp with rfl | rfl; exact h; exact h'⟩
end Go.Proofs.YthblfhgofopcaaaGreat

namespace Go.Proofs.YthblfhgofopcaaaGreat
open Go.RowKit
set_option maxRecDepth 100000
theorem zT : True := trivial
theorem zE {p q : Prop} (hq : q) (h : (True → q) → p := by
 intro hq
 first
  | (simp (decide := true) only [go_sem, nth_map, true_and, and_true, false_and, and_false, ↓reduceIte, Nat.reduceAdd, Nat.reduceMul, Nat.reduceSub, List.length_map, List.map_cons, List.map_nil, List.length_cons, List.length_nil, List.getElem?_cons_zero, List.getElem?_cons_succ, Option.map_some, Option.map_none, Option.getD_some, Option.getD_none, List.drop_zero, List.take_zero, List.drop_succ_cons, List.take_succ_cons, Int.toNat_natCast, List.nil_append, List.cons_append, List.append_nil, List.toList_toArray, List.set_cons_zero, List.set_cons_succ, Nat.zero_add, Nat.add_zero, Int.toNat_zero, List.reduceReplicate, Int.reduceToNat, Int.reduceAdd, Int.reduceSub, Int.reduceMul, Int.reduceNeg, Int.ofNat_zero, Int.natCast_zero, Int.cast_ofNat_Int, Int.natCast_one, cond_true, cond_false, List.getElem?_nil, undef, Option.toList_some, Option.toList_none, List.all_nil, reduceCtorEq, implies_true, List.mem_nil_iff, List.not_mem_nil, List.mem_cons, or_false, false_or, forall_eq, forall_eq_or_imp, Int.natCast_nonneg, Int.ofNat_lt, Int.ofNat_le, decide_true, decide_false, Nat.lt_irrefl, beq_self_eq_true, true_or, or_true, fa]; exact hq ⟨⟩)
  | fail) : p := h (fun _ => hq)
theorem zE0 {p : Prop} (h : p := by
 first
  | (simp (decide := true) only [go_sem, nth_map, true_and, and_true, false_and, and_false, ↓reduceIte, Nat.reduceAdd, Nat.reduceMul, Nat.reduceSub, List.length_map, List.map_cons, List.map_nil, List.length_cons, List.length_nil, List.getElem?_cons_zero, List.getElem?_cons_succ, Option.map_some, Option.map_none, Option.getD_some, Option.getD_none, List.drop_zero, List.take_zero, List.drop_succ_cons, List.take_succ_cons, Int.toNat_natCast, List.nil_append, List.cons_append, List.append_nil, List.toList_toArray, List.set_cons_zero, List.set_cons_succ, Nat.zero_add, Nat.add_zero, Int.toNat_zero, List.reduceReplicate, Int.reduceToNat, Int.reduceAdd, Int.reduceSub, Int.reduceMul, Int.reduceNeg, Int.ofNat_zero, Int.natCast_zero, Int.cast_ofNat_Int, Int.natCast_one, cond_true, cond_false, List.getElem?_nil, undef, Option.toList_some, Option.toList_none, List.all_nil, reduceCtorEq, implies_true, List.mem_nil_iff, List.not_mem_nil, List.mem_cons, or_false, false_or, forall_eq, forall_eq_or_imp, Int.natCast_nonneg, Int.ofNat_lt, Int.ofNat_le, decide_true, decide_false, Nat.lt_irrefl, beq_self_eq_true, true_or, or_true, fa]; done)
  | fail) : p := h
theorem zF {p q : Prop} (hq : q) (h : (True → q) → p := by
 intro hq
 first
  | (simp (decide := true) (disch := omega) only [go_sem, true_and, and_true, false_and, and_false, ↓reduceIte, Nat.reduceAdd, Nat.reduceMul, Nat.reduceSub, List.length_map, List.map_cons, List.map_nil, List.length_cons, List.length_nil, List.getElem?_cons_zero, List.getElem?_cons_succ, Option.map_some, Option.map_none, Option.getD_some, Option.getD_none, List.drop_zero, List.take_zero, List.drop_succ_cons, List.take_succ_cons, Int.toNat_natCast, List.nil_append, List.cons_append, List.append_nil, List.toList_toArray, List.set_cons_zero, List.set_cons_succ, Nat.zero_add, Nat.add_zero, Int.toNat_zero, List.reduceReplicate, Int.reduceToNat, Int.reduceAdd, Int.reduceSub, Int.reduceMul, Int.reduceNeg, Int.ofNat_zero, Int.natCast_zero, Int.cast_ofNat_Int, Int.natCast_one, cond_true, cond_false, List.getElem?_nil, undef, Option.toList_some, Option.toList_none, List.all_nil, reduceCtorEq, implies_true, List.mem_nil_iff, List.not_mem_nil, List.mem_cons, or_false, false_or, forall_eq, forall_eq_or_imp, Int.natCast_nonneg, Int.ofNat_lt, Int.ofNat_le, decide_true, decide_false, Nat.lt_irrefl, beq_self_eq_true, true_or, or_true, nth_map, vwrap_in, tn1, tn2, tn3, tn4, tn5, tn6, fa]; exact hq ⟨⟩)
  | fail) : p := h (fun _ => hq)
theorem zV {p : Prop} (h : p := by
 first
  | (first | exact zE0 | (refine zE ?_; rfl) | rfl | trivial)
  | fail) : p := h
theorem zG {p q : Prop} (hq : q) (h : (True → q) → p := by
 intro hq
 first
  | ((first | ((with_reducible refine AOps_one ?_); intro Jo hJo; refine zE ?_; refine hJo _ _ _ ?_; clear hJo Jo) | ((with_reducible refine AOps_end ?_); (try simp (decide := true) only [thenA, blockA, ↓reduceIte])) | ((with_reducible apply AD_one); rfl; intro Jo hJo; refine zE ?_; refine hJo _ _ _ _ ?_; clear hJo Jo) | ((with_reducible refine AD_end ?_); refine zE ?_) | (with_reducible refine AW_reg ?_) | ((with_reducible apply AW_regD tb); rfl; kernel_rfl) | (with_reducible refine AW_block ?_) | ((with_reducible refine AW_exit ?_); (try simp (decide := true) only [thenA, blockA, ↓reduceIte])) | ((with_reducible refine AW_skip ?_); (try simp (decide := true) only [thenA, blockA, ↓reduceIte])) | ((with_reducible refine AW_condT ?_ ?_); exact rfl) | ((with_reducible refine AW_condF ?_ ?_); exact rfl)); (repeat (first | ((with_reducible refine AOps_one ?_); intro Jo hJo; refine zE ?_; refine hJo _ _ _ ?_; clear hJo Jo) | ((with_reducible refine AOps_end ?_); (try simp (decide := true) only [thenA, blockA, ↓reduceIte])) | ((with_reducible apply AD_one); rfl; intro Jo hJo; refine zE ?_; refine hJo _ _ _ _ ?_; clear hJo Jo) | ((with_reducible refine AD_end ?_); refine zE ?_) | (with_reducible refine AW_reg ?_) | ((with_reducible apply AW_regD tb); rfl; kernel_rfl) | (with_reducible refine AW_block ?_) | ((with_reducible refine AW_exit ?_); (try simp (decide := true) only [thenA, blockA, ↓reduceIte])) | ((with_reducible refine AW_skip ?_); (try simp (decide := true) only [thenA, blockA, ↓reduceIte])) | ((with_reducible refine AW_condT ?_ ?_); exact rfl) | ((with_reducible refine AW_condF ?_ ?_); exact rfl))); exact hq ⟨⟩)
  | fail) : p := h (fun _ => hq)
theorem zW {c p q : Prop} (ct : c) (hq : q) (h : c → (True → q) → p := by
 intro ct hq
 first
  | ((with_reducible refine AOps_one ?_); intro Jo hJo; refine zE ?_; refine CallW.says ct (by (first | exact zE0 | rfl | (refine zE ?_; rfl) | trivial)) (by (first | (apply Or.inl; (first | exact zE0 | rfl | (refine zE ?_; rfl) | trivial); done) | (apply Or.inr; (first | exact zE0 | rfl | (refine zE ?_; rfl) | trivial); done))) (by intro q; (first | exact zE0 | rfl | (refine zE ?_; rfl) | trivial)) ?_; (try refine zE ?_); refine hJo _ _ _ ?_; clear hJo Jo; exact hq ⟨⟩)
  | fail) : p := h ct (fun _ => hq)
theorem zD {c p q : Prop} (ct : c) (hq : q) (h : c → (True → q) → p := by
 intro ct hq
 first
  | ((with_reducible apply AD_one); rfl; intro Jo hJo; refine zE ?_; refine CallD.says ct (by (first | exact zE0 | rfl | (refine zE ?_; rfl) | trivial)) (by (first | exact zE0 | rfl | (refine zE ?_; rfl) | trivial)) (by (first | (apply Or.inl; (first | exact zE0 | rfl | (refine zE ?_; rfl) | trivial); done) | (apply Or.inr; (first | exact zE0 | rfl | (refine zE ?_; rfl) | trivial); done))) (by intro q; (first | exact zE0 | rfl | (refine zE ?_; rfl) | trivial)) ?_; (try refine zE ?_); refine hJo _ _ _ _ ?_; clear hJo Jo; exact hq ⟨⟩)
  | fail) : p := h ct (fun _ => hq)
theorem zWo {c p q : Prop} (ct : c) (hq : q) (h : c → (True → q) → p := by
 intro ct hq
 first
  | ((with_reducible refine AOps_one ?_); intro Jo hJo; refine zE ?_; refine CallW.own ct (by (first | exact zE0 | rfl | (refine zE ?_; rfl) | trivial)) (by (first | (apply Or.inr; (first | exact zE0 | rfl | (refine zE ?_; rfl) | trivial); done) | (apply Or.inl; (first | exact zE0 | rfl | (refine zE ?_; rfl) | trivial); done))) (by (first | exact clean1 (by simp) | exact clean2 (by decide) (by simp) (by simp))) (by exact zE0) ?_; (try refine zE ?_); refine hJo _ _ _ ?_; clear hJo Jo; exact hq ⟨⟩)
  | fail) : p := h ct (fun _ => hq)
theorem zDo {c p q : Prop} (ct : c) (hq : q) (h : c → (True → q) → p := by
 intro ct hq
 first
  | ((with_reducible apply AD_one); rfl; intro Jo hJo; refine zE ?_; refine CallD.own ct (by (first | exact zE0 | rfl | (refine zE ?_; rfl) | trivial)) (by (first | exact zE0 | rfl | (refine zE ?_; rfl) | trivial)) (by (first | (apply Or.inr; (first | exact zE0 | rfl | (refine zE ?_; rfl) | trivial); done) | (apply Or.inl; (first | exact zE0 | rfl | (refine zE ?_; rfl) | trivial); done))) (by (first | exact clean1 (by simp) | exact clean2 (by decide) (by simp) (by simp))) (by exact zE0) ?_; (try refine zE ?_); refine hJo _ _ _ _ ?_; clear hJo Jo; exact hq ⟨⟩)
  | fail) : p := h ct (fun _ => hq)
end Go.Proofs.YthblfhgofopcaaaGreat

namespace Go.Proofs.YthblfhgofopcaaaGreat
open Go.RowKit
variable [DM]
section
variable {r s : List (Nat × AV) → Prop} {tm : List (Nat × AV)} {e : Bool} {t : Nat} {w : Bool}
theorem stepG_split (h1 : e = true → stepG (.ask true t w) r s tm) (h2 : e = false → stepG (.ask false t w) r s tm) : stepG (.ask e t w) r s tm := by
 cases e
 ·exact h2 rfl
 ·exact h1 rfl
theorem stepG_isT (he : e = true) (h : stepG (.ask true t w) r s tm) : stepG (.ask e t w) r s tm := by rw [he]; exact h
theorem stepG_isF (he : e = false) (h : stepG (.ask false t w) r s tm) : stepG (.ask e t w) r s tm := by rw [he]; exact h
end
section
variable {P : Program} {T : Tys} {nt ne : Nat} {D : List Oper → St → (St → Prop) → Prop} {Q : Exit → St → Prop} {σ : St}
theorem AW_isT {x : Operand} {a b : Code} {t : Bool} (hx : evO σ.tm x = .v (.bool t)) (ht : t = true) (h : AW P T nt ne D a Q σ) : AW P T nt ne D (.cond x a b) Q σ := AW_cond hx ⟨fun _ => h, fun e => by rw [ht] at e; cases e⟩
theorem AW_isF {x : Operand} {a b : Code} {t : Bool} (hx : evO σ.tm x = .v (.bool t)) (ht : t = false) (h : AW P T nt ne D b Q σ) : AW P T nt ne D (.cond x a b) Q σ := AW_cond hx ⟨(fun e => by rw [ht] at e; cases e), fun _ => h⟩
end
theorem tn1 (k : Nat) : ((k : Int) - 1).toNat = k - 1 := by omega
theorem tn2 (k m : Nat) : ((k : Int) - (m : Int)).toNat = k - m := by omega
theorem tn3 (k : Nat) : ((k : Int) + 1).toNat = k + 1 := by omega
theorem tn4 (k m : Nat) : ((k : Int) + (m : Int)).toNat = k + m := by omega
theorem tn5 (k : Nat) : ((k : Int) + 2).toNat = k + 2 := by omega
theorem tn6 (m : Nat) : ((m : Int) - ((m : Int) - 1)).toNat = 1 := by omega
end Go.Proofs.YthblfhgofopcaaaGreat
