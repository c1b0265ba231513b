/-
  Parts of the proof: VmEn.
-/
import Derived.Test.YthblfhgofopcaaaGreatHA14
set_option linter.all false
namespace Go.Proofs.YthblfhgofopcaaaGreat
open Go.RowKit
variable [DM]
class ClK (nt : Nat) (ne : outParam Nat) (K : St → Prop) : Prop where
 w : ∀ σ σ', Wk nt ne σ σ' → K σ' → K σ
class ClQ (nt : Nat) (ne : outParam Nat) (Q : Exit → St → Prop) : Prop where
 w : ∀ e σ σ', Wk nt ne σ σ' → Q e σ' → Q e σ
section
variable {nt ne : Nat}
instance clq_then (K : St → Prop) (Q : Exit → St → Prop) [hK : ClK nt ne K] [hQ : ClQ nt ne Q] : ClQ nt ne (thenA K Q) := ⟨fun e σ σ' h k => by
 cases e with
 | normal => exact hK.w σ σ' h k
 | _ => exact hQ.w _ σ σ' h k⟩
instance clq_block (i : Nat) (Q : Exit → St → Prop) [hQ : ClQ nt ne Q] : ClQ nt ne (blockA i Q) := ⟨fun e σ σ' h k => by
 cases e with
 | exit j =>
  simp only [blockA] at k ⊢
  split
  ·rename_i hj; rw [if_pos hj] at k; exact hQ.w _ σ σ' h k
  ·rename_i hj; rw [if_neg hj] at k; exact hQ.w _ σ σ' h k
 | _ => exact hQ.w _ σ σ' h k⟩
instance clq_ret (T : Tys) (rs : List ResultVar) (R : AV → Hl → Prop) : ClQ nt ne (RetW T nt rs ne R) := ⟨fun _ _ _ h ⟨σ2, h2, k⟩ => ⟨σ2, h.trans h2, k⟩⟩
instance clk_norm (Q : Exit → St → Prop) [hQ : ClQ nt ne Q] : ClK nt ne (Q .normal) := ⟨fun σ σ' h k => hQ.w _ σ σ' h k⟩
theorem wk_eq {σ σ' : St} (h1 : lk σ'.tm .any = lk σ.tm .any) (h2 : lk σ'.hp .nil = lk σ.hp .nil) : Wk nt ne σ σ' := fun c0 h0 c a _ _ r => ⟨c, rfl, ⟨by rw [h2]; exact r.kp, by rw [h2]; exact r.hp, ⟨r.fr.sz, r.fr.df, fun t => by rw [h1, h2]; exact r.fr.tm t⟩⟩⟩
def keepT (ts : List Nat) (tm : List (Nat × AV)) : List (Nat × AV) := ts.map fun t => (t, lk tm .any t)
theorem lk_keepT (tm : List (Nat × AV)) (t : Nat) : ∀ ts : List Nat, lk (keepT ts tm) .any t = .any ∨ lk (keepT ts tm) .any t = lk tm .any t
 | [] => .inl rfl
 | s :: ts => by
  simp only [keepT, List.map_cons, lk]
  split
  ·rename_i h; rw [h]; exact .inr rfl
  ·exact lk_keepT tm t ts
theorem wk_keep (ts : List Nat) (σ : St) : Wk nt ne σ ⟨σ.nx, keepT ts σ.tm, σ.hp⟩ := fun c0 h0 c a _ _ r => ⟨c, rfl, ⟨r.kp, r.hp, ⟨r.fr.sz, r.fr.df, fun t => by
 rcases lk_keepT σ.tm t ts with h | h
 ·rw [h]; exact .any _
 ·rw [h]; exact r.fr.tm t⟩⟩⟩
end
theorem evO_lk {tm tm0 : List (Nat × AV)} (h : lk tm0 .any = lk tm .any) : evO tm0 = evO tm := by rw [evO_eq, evO_eq, h]
theorem lk_cons_f {β : Type} (d : β) (t : Nat) (x : β) (l : List (Nat × β)) : lk ((t, x) :: l) d = fun s => if t = s then x else lk l d s := rfl
theorem upd_cons {β : Type} {d : β} {l l0 : List (Nat × β)} (h : lk l0 d = lk l d) (t : Nat) (x : β) : lk (upd l0 t x) d = lk ((t, x) :: l) d := by
 funext s; rw [lk_upd, lk_cons_f, h]
def consL : List (Nat × Ob) → Hl → Hl
 | [], hp => hp
 | u :: us, hp => consL us (u :: hp)
theorem lk_consL : ∀ (us : List (Nat × Ob)) (hp hp0 : Hl), lk hp0 .nil = lk hp .nil → lk (upsL us hp0) .nil = lk (consL us hp) .nil
 | [], _, _, h => h
 | u :: us, hp, hp0, h => lk_consL us (u :: hp) (upd hp0 u.1 u.2) (upd_cons h u.1 u.2)
theorem mrgL_lk (q : Nat → Nat) (hl : Hl) {hp hp0 : Hl} (h : lk hp0 .nil = lk hp .nil) : lk (mrgL q hl hp0) .nil = lk (mrgL q hl hp) .nil := by
 rw [lk_mrg, lk_mrg, h]
theorem CallW.lk {P : Program} {f : Nat} {xs : List AV} {hp hp0 : Hl} {nm : Nat} {K K0 : AV → Hl → Prop} (h : lk hp0 .nil = lk hp .nil) (hK : ∀ x h1 h2, lk h1 .nil = lk h2 .nil → K x h2 → K0 x h1) (hc : CallW P f xs hp nm K) : CallW P f xs hp0 nm K0 := by
 obtain ⟨ρ, bm, R, c1, c2, c3, c4, c5⟩ := hc
 refine ⟨ρ, bm, R, by rw [h]; exact c1, c2, by rw [h]; exact c3, by rw [h]; exact c4, fun x hl hR => ?_⟩
 obtain ⟨d1, d2, d3, d4⟩ := c5 x hl hR
 exact ⟨d1, d2, by rw [h]; exact d3, hK _ _ _ (mrgL_lk _ hl h) d4⟩
theorem CallD.lk {P : Program} {f : Nat} {xs : List AV} {hp hp0 : Hl} {nm : Nat} {C : List Nat → Prop} {K K0 : AV → Hl → Prop} (h : lk hp0 .nil = lk hp .nil) (hK : ∀ x h1 h2, lk h1 .nil = lk h2 .nil → K x h2 → K0 x h1) (hc : CallD P f xs hp nm C K) : CallD P f xs hp0 nm C K0 := by
 obtain ⟨ρ, bm, R, c0, c1, c2, c3, c4, c5⟩ := hc
 refine ⟨ρ, bm, R, c0, by rw [h]; exact c1, c2, by rw [h]; exact c3, by rw [h]; exact c4, fun x hl hR => ?_⟩
 obtain ⟨d1, d2, d3, d4⟩ := c5 x hl hR
 exact ⟨d1, d2, by rw [h]; exact d3, hK _ _ _ (mrgL_lk _ hl h) d4⟩
def LK (hp : Hl) : HF := lk hp .nil
theorem LK_cons (s t : Nat) (x : Ob) (l : Hl) : LK ((s, x) :: l) t = if s = t then x else LK l t := rfl
theorem LK_none (t : Nat) : LK [] t = .nil := rfl
def KP (_ts : List Nat) (G : St → Prop) : St → Prop := G
def AE (P : Program) (T : Tys) (nt : Nat) (all os : List Oper) (nx : Nat) (tm : List (Nat × AV)) (hp : Hl) (G : St → Prop) : Prop :=
 ∀ tm0 hp0, lk tm0 .any = lk tm .any → lk hp0 .nil = lk hp .nil → AOps P T nt all os nx tm0 hp0 G
def stepE (r : Rs) (d : Prop) (fresh : Prop) (P : Program) (hp : Hl) (nx : Nat) (J : Nat → AV → Prop) (JU : Nat → AV → Nat × Ob → Prop) (JC : Nat → AV → Hl → Prop) : Prop := match r with
 | .bad => False
 | .out p x us => d ∧ p ∧ fresh ∧ match us with
  | [] => J (nx + 16) x
  | [u] => JU (nx + 16) x u
  | _ => False
 | .call f xs => d ∧ CallW P f xs hp nx fun x hp' => JC (nx + 16) x hp'
@[go_sem] theorem stepE_0 (p : Prop) (x : AV) (d : Prop) (fresh : Prop) (P : Program) (hp : Hl) (nx : Nat) (J : Nat → AV → Prop) (JU : Nat → AV → Nat × Ob → Prop) (JC : Nat → AV → Hl → Prop) : stepE (.out p x []) d fresh P hp nx J JU JC = (d ∧ p ∧ fresh ∧ J (nx + 16) x) := rfl
@[go_sem] theorem stepE_1 (p : Prop) (x : AV) (u : Nat × Ob) (d : Prop) (fresh : Prop) (P : Program) (hp : Hl) (nx : Nat) (J : Nat → AV → Prop) (JU : Nat → AV → Nat × Ob → Prop) (JC : Nat → AV → Hl → Prop) : stepE (.out p x [u]) d fresh P hp nx J JU JC = (d ∧ p ∧ fresh ∧ JU (nx + 16) x u) := rfl
@[go_sem] theorem stepE_c (f : Nat) (xs : List AV) (d : Prop) (fresh : Prop) (P : Program) (hp : Hl) (nx : Nat) (J : Nat → AV → Prop) (JU : Nat → AV → Nat × Ob → Prop) (JC : Nat → AV → Hl → Prop) : stepE (.call f xs) d fresh P hp nx J JU JC = (d ∧ CallW P f xs hp nx fun x hp' => JC (nx + 16) x hp') := rfl
section
variable {P : Program} {T : Tys} {nt ne : Nat} {all os : List Oper} {nx : Nat} {tm : List (Nat × AV)} {hp : Hl} {G : St → Prop} {d : Nat} {op : Op} {a2 : Nat} {i : Nat} {want : Bool}
theorem AE_end [hG : ClK nt ne G] {ts : List Nat} (h : ∀ J : List (Nat × AV) → Prop, (∀ tm', G ⟨nx, tm', hp⟩ → J tm') → J (keepT ts tm)) : AE P T nt all [] nx tm hp (KP ts G) := by
 intro tm0 hp0 e1 e2
 refine hG.w _ _ (wk_eq (σ' := ⟨nx, tm, hp⟩) e1.symm e2.symm) (hG.w _ _ (wk_keep ts _) ?_)
 exact h _ fun _ k => k
theorem AE_gen {dst : Option Nat} {o : Oper} (ho : opOf o = op) (hds : dstOf o = dst) (hg : grdOf o = none) {put : AV → List (Nat × AV)} (hput : ∀ x tm0, lk tm0 .any = lk tm .any → lk (putT tm0 dst x) .any = lk (put x) .any)
  (h : ∀ (J : Nat → AV → Prop) (JU : Nat → AV → Nat × Ob → Prop) (JC : Nat → AV → Hl → Prop), (∀ n x, AE P T nt all os n (put x) hp G → J n x) → (∀ n x u, AE P T nt all os n (put x) (u :: hp) G → JU n x u) → (∀ n x hp', AE P T nt all os n (put x) hp' G → JC n x hp') →
   stepE (opF T (evO tm) (LK hp) nx op) (dstB nt dst) (lk hp .nil nx = .nil) P hp nx J JU JC) : AE P T nt all (o :: os) nx tm hp G := by
 intro tm0 hp0 e1 e2
 obtain ⟨dst', op', ty, af, ps, g⟩ := o
 simp only [opOf, dstOf, grdOf] at ho hds hg
 subst ho hds hg
 have h := h _ _ _ (fun _ _ h => h) (fun _ _ _ h => h) (fun _ _ _ h => h)
 unfold LK at h
 unfold AOps
 simp only [gdF]
 rw [evO_lk e1, e2]
 generalize opF T (evO tm) (lk hp .nil) nx op' = r at h ⊢
 cases r with
 | bad => exact h
 | out p x us =>
  cases us with
  | nil => exact ⟨h.1, h.2.1, h.2.2.1, h.2.2.2 _ _ (hput x tm0 e1) e2⟩
  | cons u us =>
   cases us with
   | nil => exact ⟨h.1, h.2.1, h.2.2.1, h.2.2.2 _ _ (hput x tm0 e1) (lk_consL [u] hp hp0 e2)⟩
   | cons _ _ => exact h.2.2.2.elim
 | call f xs => exact ⟨h.1, h.2.lk e2 fun x h1 h2 e k => k _ _ (hput x tm0 e1) e⟩
theorem AE_one {a3 : _} {a4 : _} {a5 : _} (h : ∀ (J : Nat → AV → Prop) (JU : Nat → AV → Nat × Ob → Prop) (JC : Nat → AV → Hl → Prop), (∀ n x, AE P T nt all os n ((d, x) :: tm) hp G → J n x) → (∀ n x u, AE P T nt all os n ((d, x) :: tm) (u :: hp) G → JU n x u) → (∀ n x hp', AE P T nt all os n ((d, x) :: tm) hp' G → JC n x hp') →
   stepE (opF T (evO tm) (LK hp) nx op) (d < nt) (lk hp .nil nx = .nil) P hp nx J JU JC) : AE P T nt all (⟨some d, op, a3, a4, a5, none⟩ :: os) nx tm hp G :=
 AE_gen (dst := some d) (put := fun x => (d, x) :: tm) rfl rfl rfl (fun x _ e => upd_cons e d x) h
theorem AE_non {a3 : _} {a4 : _} {a5 : _} (h : ∀ (J : Nat → AV → Prop) (JU : Nat → AV → Nat × Ob → Prop) (JC : Nat → AV → Hl → Prop), (∀ n x, AE P T nt all os n tm hp G → J n x) → (∀ n x u, AE P T nt all os n tm (u :: hp) G → JU n x u) → (∀ n x hp', AE P T nt all os n tm hp' G → JC n x hp') →
   stepE (opF T (evO tm) (LK hp) nx op) True (lk hp .nil nx = .nil) P hp nx J JU JC) : AE P T nt all (⟨none, op, a3, a4, a5, none⟩ :: os) nx tm hp G :=
 AE_gen (dst := none) (put := fun _ => tm) rfl rfl rfl (fun _ _ e => e) h
def gT (all : List Oper) (i : Nat) : Option Nat := match all[i]? with
 | some o => o.dst
 | none => none
def stepGd (v : AV) (want : Bool) (Jr : Bool → Prop) (Js : Bool → Prop) (J0 : Prop) : Prop := match v with
 | .v (.bool e) => (e = want → Jr want) ∧ (e = (!want) → Js (!want))
 | .v (.tuple _) => J0
 | _ => False
theorem stepGd_tt (Jr : Bool → Prop) (Js : Bool → Prop) (J0 : Prop) : stepGd (.v (.bool true)) true Jr Js J0 = Jr true := by simp [stepGd]
theorem stepGd_ff (Jr : Bool → Prop) (Js : Bool → Prop) (J0 : Prop) : stepGd (.v (.bool false)) false Jr Js J0 = Jr false := by simp [stepGd]
theorem stepGd_tf (Jr : Bool → Prop) (Js : Bool → Prop) (J0 : Prop) : stepGd (.v (.bool true)) false Jr Js J0 = Js true := by simp [stepGd]
theorem stepGd_ft (Jr : Bool → Prop) (Js : Bool → Prop) (J0 : Prop) : stepGd (.v (.bool false)) true Jr Js J0 = Js false := by simp [stepGd]
theorem stepGd_isT {e : Bool} {Jr : Bool → Prop} {Js : Bool → Prop} {J0 : Prop} (he : e = true) (h : stepGd (.v (.bool true)) want Jr Js J0) : stepGd (.v (.bool e)) want Jr Js J0 := by rw [he]; exact h
theorem stepGd_isF {e : Bool} {Jr : Bool → Prop} {Js : Bool → Prop} {J0 : Prop} (he : e = false) (h : stepGd (.v (.bool false)) want Jr Js J0) : stepGd (.v (.bool e)) want Jr Js J0 := by rw [he]; exact h
theorem stepGd_split {e : Bool} {Jr : Bool → Prop} {Js : Bool → Prop} {J0 : Prop} (h1 : e = true → stepGd (.v (.bool true)) want Jr Js J0) (h2 : e = false → stepGd (.v (.bool false)) want Jr Js J0) : stepGd (.v (.bool e)) want Jr Js J0 := by
 cases e
 ·exact h2 rfl
 ·exact h1 rfl
attribute [go_sem] stepGd_tt stepGd_ff stepGd_tf stepGd_ft
theorem AE_grdG {dst : Option Nat} {a3 : _} {a4 : _} {a5 : _} {t : Nat} {put : List (Nat × AV) → List (Nat × AV)} (hput : ∀ tm0 tm, lk tm0 .any = lk tm .any → lk (putT tm0 dst (.v undef)) .any = lk (put tm) .any) (hd : dstB nt dst) (ht : gT all i = some t)
  (h : ∀ (Jr Js : Bool → Prop) (J0 : Prop), (∀ b, AE P T nt all (⟨dst, op, a3, a4, a5, none⟩ :: os) nx ((t, .v (.bool b)) :: tm) hp G → Jr b) → (∀ b, AE P T nt all os nx (put ((t, .v (.bool b)) :: tm)) hp G → Js b) →
   (AE P T nt all os nx (put tm) hp G → J0) → stepGd (lk tm .any t) want Jr Js J0) : AE P T nt all (⟨dst, op, a3, a4, a5, some (i, want)⟩ :: os) nx tm hp G := by
 have h := h _ _ _ (fun _ h => h) (fun _ h => h) (fun h => h)
 intro tm0 hp0 e1 e2
 unfold gT at ht
 cases ho : all[i]? with
 | none => rw [ho] at ht; cases ht
 | some o =>
  rw [ho] at ht
  simp only at ht
  have run : ∀ b, lk tm .any t = .v (.bool b) → AE P T nt all (⟨dst, op, a3, a4, a5, none⟩ :: os) nx ((t, .v (.bool b)) :: tm) hp G → (match opF T (evO (upd tm0 t (.v (.bool b)))) (lk hp0 .nil) nx op with
    | .bad => False
    | .out p x us => dstB nt dst ∧ p ∧ lk hp0 .nil nx = .nil ∧ AOps P T nt all os (nx + 16) (putT (upd tm0 t (.v (.bool b))) dst x) (upsL us hp0) G
    | .call f xs => dstB nt dst ∧ CallW P f xs hp0 nx fun x hp' => After (AOps P T nt all os (nx + 16) (putT (upd tm0 t (.v (.bool b))) dst x) hp' G)) := fun b hb k => by
   have := k (upd tm0 t (.v (.bool b))) hp0 (upd_cons e1 t _) e2
   unfold AOps at this
   simp only [gdF] at this
   exact this
  unfold AOps
  simp only [gdF, ho, ht, e1]
  cases hv : lk tm .any t with
  | v y =>
   rw [hv] at h
   cases y with
   | bool e =>
    simp only [stepGd] at h
    cases e <;> cases want
    ·exact run false hv (h.1 rfl)
    ·exact ⟨hd, h.2 rfl _ _ (hput _ _ (upd_cons e1 t _)) e2⟩
    ·exact ⟨hd, h.2 rfl _ _ (hput _ _ (upd_cons e1 t _)) e2⟩
    ·exact run true hv (h.1 rfl)
   | tuple a => exact ⟨hd, h _ _ (hput _ _ e1) e2⟩
   | _ => exact h.elim
  | _ => rw [hv] at h; exact h.elim
theorem AE_grd {a3 : _} {a4 : _} {a5 : _} {t : Nat} (hd : d < nt) (ht : gT all i = some t)
  (h : ∀ (Jr Js : Bool → Prop) (J0 : Prop), (∀ b, AE P T nt all (⟨some d, op, a3, a4, a5, none⟩ :: os) nx ((t, .v (.bool b)) :: tm) hp G → Jr b) → (∀ b, AE P T nt all os nx ((d, .v undef) :: (t, .v (.bool b)) :: tm) hp G → Js b) →
   (AE P T nt all os nx ((d, .v undef) :: tm) hp G → J0) → stepGd (lk tm .any t) want Jr Js J0) : AE P T nt all (⟨some d, op, a3, a4, a5, some (i, want)⟩ :: os) nx tm hp G :=
 AE_grdG (dst := some d) (put := fun tm => (d, .v undef) :: tm) (fun _ _ e => upd_cons e d _) hd ht h
theorem AE_grdN {a3 : _} {a4 : _} {a5 : _} {t : Nat} (ht : gT all i = some t)
  (h : ∀ (Jr Js : Bool → Prop) (J0 : Prop), (∀ b, AE P T nt all (⟨none, op, a3, a4, a5, none⟩ :: os) nx ((t, .v (.bool b)) :: tm) hp G → Jr b) → (∀ b, AE P T nt all os nx ((t, .v (.bool b)) :: tm) hp G → Js b) →
   (AE P T nt all os nx tm hp G → J0) → stepGd (lk tm .any t) want Jr Js J0) : AE P T nt all (⟨none, op, a3, a4, a5, some (i, want)⟩ :: os) nx tm hp G :=
 AE_grdG (dst := none) (put := fun tm => tm) (fun _ _ e => e) trivial ht h
end
def ADE (P : Program) (T : Tys) (nt : Nat) (all : List Oper) (ms : List Nat) (base : Nat) (os : List Nat) (tm : List (Nat × AV)) (hp : Hl) (fT : List (Nat × List Nat)) (fW : List (Nat × Nat)) (G : St → Prop) : Prop :=
 ∀ tm0 hp0, lk tm0 .any = lk tm .any → lk hp0 .nil = lk hp .nil → AD P T nt all ms base os tm0 hp0 fT fW G
def stepDE (r : Rs) (ts : List Nat) (eff : Bool) (d : Prop) (fresh : Prop) (P : Program) (hp : Hl) (nm j : Nat) (ms : List Nat) (fT : List (Nat × List Nat)) (fW : List (Nat × Nat)) (J : AV → List (Nat × List Nat) → Prop) (JU : AV → Nat × Ob → List (Nat × List Nat) → List (Nat × Nat) → Prop) (JC : AV → Hl → Prop) : Prop := match r with
 | .bad => False
 | .out p x us => d ∧ p ∧ fresh ∧ chkT ms fW j ts = true ∧ match us with
  | [] => match eff with
   | true => J x fT
   | false => J x (addT j ts fT)
  | [u] => match eff with
   | true => chkE ms fT fW j [u.1] = true ∧ JU x u fT fW
   | false => [u.1].all (chkN fT ts) = true ∧ JU x u (addT j ts fT) (addW j [u.1] fW)
  | _ => False
 | .call f xs => d ∧ chkT ms fW j ts = true ∧ CallD P f xs hp nm (fun ρ => chkC nm ms fT fW j ρ xs (ρ.map (lk hp .nil)) = true) fun x hp' => JC x hp'
section
variable (p : Prop) (x : AV) (u : Nat × Ob) (f : Nat) (xs : List AV) (ts : List Nat) (eff : Bool) (d : Prop) (fresh : Prop) (P : Program) (hp : Hl) (nm j : Nat) (ms : List Nat) (fT : List (Nat × List Nat)) (fW : List (Nat × Nat)) (J : AV → List (Nat × List Nat) → Prop) (JU : AV → Nat × Ob → List (Nat × List Nat) → List (Nat × Nat) → Prop) (JC : AV → Hl → Prop)
@[go_sem] theorem stepDE_0t : stepDE (.out p x []) ts true d fresh P hp nm j ms fT fW J JU JC = (d ∧ p ∧ fresh ∧ chkT ms fW j ts = true ∧ J x fT) := rfl
@[go_sem] theorem stepDE_0f : stepDE (.out p x []) ts false d fresh P hp nm j ms fT fW J JU JC = (d ∧ p ∧ fresh ∧ chkT ms fW j ts = true ∧ J x (addT j ts fT)) := rfl
@[go_sem] theorem stepDE_1t : stepDE (.out p x [u]) ts true d fresh P hp nm j ms fT fW J JU JC = (d ∧ p ∧ fresh ∧ chkT ms fW j ts = true ∧ chkE ms fT fW j [u.1] = true ∧ JU x u fT fW) := rfl
@[go_sem] theorem stepDE_1f : stepDE (.out p x [u]) ts false d fresh P hp nm j ms fT fW J JU JC = (d ∧ p ∧ fresh ∧ chkT ms fW j ts = true ∧ [u.1].all (chkN fT ts) = true ∧ JU x u (addT j ts fT) (addW j [u.1] fW)) := rfl
@[go_sem] theorem stepDE_c : stepDE (.call f xs) ts eff d fresh P hp nm j ms fT fW J JU JC = (d ∧ chkT ms fW j ts = true ∧ CallD P f xs hp nm (fun ρ => chkC nm ms fT fW j ρ xs (ρ.map (lk hp .nil)) = true) fun x hp' => JC x hp') := rfl
end
section
variable {P : Program} {T : Tys} {nt ne : Nat} {all : List Oper} {ms os : List Nat} {base j : Nat} {tm : List (Nat × AV)} {hp : Hl} {fT : List (Nat × List Nat)} {fW : List (Nat × Nat)} {G : St → Prop} {d : Nat} {op : Op} {i : Nat} {want : Bool}
theorem ADE_end [hG : ClK nt ne G] {ts : List Nat} (h : ∀ J : Nat → List (Nat × AV) → Prop, (∀ n tm', G ⟨n, tm', hp⟩ → J n tm') → J (base + 1024) (keepT ts tm)) : ADE P T nt all ms base [] tm hp fT fW (KP ts G) := by
 intro tm0 hp0 e1 e2
 refine hG.w _ _ (wk_eq (σ' := ⟨base + 16 * all.length, tm, hp⟩) e1.symm e2.symm) (hG.w _ _ (wk_keep ts _) (hG.w _ _ (wk_eq (σ' := ⟨base + 1024, keepT ts tm, hp⟩) rfl rfl) ?_))
 exact h _ fun _ _ k => k
theorem ADE_gen {dst : Option Nat} {o : Oper} (hj : all[j]? = some o) (ho : opOf o = op) (hds : dstOf o = dst) {tm1 : List (Nat × AV)} (h1 : ∀ tm0, lk tm0 .any = lk tm .any → ∃ tm0', lk tm0' .any = lk tm1 .any ∧ (gdF all tm0 o.guard = .run ∧ tm0' = tm0 ∨ ∃ b t, gdF all tm0 o.guard = .ask b t b ∧ tm0' = upd tm0 t (.v (.bool b))))
  {put : AV → List (Nat × AV)} (hput : ∀ x tm0, lk tm0 .any = lk tm1 .any → lk (putT tm0 dst x) .any = lk (put x) .any)
  (h : ∀ (J : AV → List (Nat × List Nat) → Prop) (JU : AV → Nat × Ob → List (Nat × List Nat) → List (Nat × Nat) → Prop) (JC : AV → Hl → Prop), (∀ x a, ADE P T nt all ms base os (put x) hp a fW G → J x a) → (∀ x u a b, ADE P T nt all ms base os (put x) (u :: hp) a b G → JU x u a b) → (∀ x hp', ADE P T nt all ms base os (put x) hp' fT fW G → JC x hp') →
   stepDE (opF T (evO tm1) (LK hp) (base + 16 * j) op) (touchL (evO tm1) (opdT op)) (effB op) (dstB nt dst) (lk hp .nil (base + 16 * j) = .nil) P hp (base + 16 * j) j ms fT fW J JU JC) : ADE P T nt all ms base (j :: os) tm hp fT fW G := by
 intro tm0 hp0 e1 e2
 obtain ⟨tm0', e3, hg⟩ := h1 tm0 e1
 have h := h _ _ _ (fun _ _ h => h) (fun _ _ _ _ h => h) (fun _ _ h => h)
 unfold LK at h
 rw [AD_eq P T nt all ms base j os tm0 hp0 fT fW G o hj]
 obtain ⟨dst', op', ty, af, ps, g⟩ := o
 simp only [opOf, dstOf] at ho hds
 subst ho hds
 have hev : evO tm0' = evO tm1 := evO_lk e3
 have key : stepR (opF T (evO tm0') (lk hp0 .nil) (base + 16 * j) op') (fun p x us => dstB nt dst' ∧ p ∧ lk hp0 .nil (base + 16 * j) = .nil ∧ chkT ms fW j (touchL (evO tm0') (opdT op')) = true ∧
   stepB (effB op') (chkE ms fT fW j (us.map (·.1)) = true ∧ AD P T nt all ms base os (putT tm0' dst' x) (upsL us hp0) fT fW G)
    ((us.map (·.1)).all (chkN fT (touchL (evO tm0') (opdT op'))) = true ∧ AD P T nt all ms base os (putT tm0' dst' x) (upsL us hp0) (addT j (touchL (evO tm0') (opdT op')) fT) (addW j (us.map (·.1)) fW) G))
   (fun f xs => dstB nt dst' ∧ chkT ms fW j (touchL (evO tm0') (opdT op')) = true ∧ CallD P f xs hp0 (base + 16 * j) (fun ρ => chkC (base + 16 * j) ms fT fW j ρ xs (ρ.map (lk hp0 .nil)) = true) fun x hp' => AD P T nt all ms base os (putT tm0' dst' x) hp' fT fW G) := by
  rw [hev, e2]
  generalize opF T (evO tm1) (lk hp .nil) (base + 16 * j) op' = r at h ⊢
  generalize touchL (evO tm1) (opdT op') = ts at h ⊢
  generalize effB op' = e at h ⊢
  cases r with
  | bad => exact h
  | out p x us =>
   have hc : ∀ e', chkE ms fT fW j ([] : List Nat) = e' → e' = true := fun e' he => by
    subst he; unfold chkE hit; simp
   cases us with
   | nil =>
    cases e
    ·exact ⟨h.1, h.2.1, h.2.2.1, h.2.2.2.1, rfl, h.2.2.2.2 _ _ (hput x tm0' e3) e2⟩
    ·exact ⟨h.1, h.2.1, h.2.2.1, h.2.2.2.1, hc _ rfl, h.2.2.2.2 _ _ (hput x tm0' e3) e2⟩
   | cons u us =>
    cases us with
    | nil =>
     cases e
     ·exact ⟨h.1, h.2.1, h.2.2.1, h.2.2.2.1, h.2.2.2.2.1, h.2.2.2.2.2 _ _ (hput x tm0' e3) (lk_consL [u] hp hp0 e2)⟩
     ·exact ⟨h.1, h.2.1, h.2.2.1, h.2.2.2.1, h.2.2.2.2.1, h.2.2.2.2.2 _ _ (hput x tm0' e3) (lk_consL [u] hp hp0 e2)⟩
    | cons _ _ => exact h.2.2.2.2.elim
  | call f xs => exact ⟨h.1, h.2.1, h.2.2.lk e2 fun x h1 h2 e k => k _ _ (hput x tm0' e3) e⟩
 unfold AD1
 rcases hg with ⟨hg, rfl⟩ | ⟨b, t, hg, rfl⟩
 ·rw [hg]; exact key
 ·rw [hg]
  cases b <;> exact key
theorem ADE_one {a3 : _} {a4 : _} {a5 : _} (hj : all[j]? = some ⟨some d, op, a3, a4, a5, none⟩)
  (h : ∀ (J : AV → List (Nat × List Nat) → Prop) (JU : AV → Nat × Ob → List (Nat × List Nat) → List (Nat × Nat) → Prop) (JC : AV → Hl → Prop), (∀ x a, ADE P T nt all ms base os ((d, x) :: tm) hp a fW G → J x a) → (∀ x u a b, ADE P T nt all ms base os ((d, x) :: tm) (u :: hp) a b G → JU x u a b) → (∀ x hp', ADE P T nt all ms base os ((d, x) :: tm) hp' fT fW G → JC x hp') →
   stepDE (opF T (evO tm) (LK hp) (base + 16 * j) op) (touchL (evO tm) (opdT op)) (effB op) (d < nt) (lk hp .nil (base + 16 * j) = .nil) P hp (base + 16 * j) j ms fT fW J JU JC) : ADE P T nt all ms base (j :: os) tm hp fT fW G :=
 ADE_gen (dst := some d) hj rfl rfl (tm1 := tm) (fun tm0 e => ⟨tm0, e, .inl ⟨rfl, rfl⟩⟩) (put := fun x => (d, x) :: tm) (fun x _ e => upd_cons e d x) h
theorem ADE_non {a3 : _} {a4 : _} {a5 : _} (hj : all[j]? = some ⟨none, op, a3, a4, a5, none⟩)
  (h : ∀ (J : AV → List (Nat × List Nat) → Prop) (JU : AV → Nat × Ob → List (Nat × List Nat) → List (Nat × Nat) → Prop) (JC : AV → Hl → Prop), (∀ x a, ADE P T nt all ms base os tm hp a fW G → J x a) → (∀ x u a b, ADE P T nt all ms base os tm (u :: hp) a b G → JU x u a b) → (∀ x hp', ADE P T nt all ms base os tm hp' fT fW G → JC x hp') →
   stepDE (opF T (evO tm) (LK hp) (base + 16 * j) op) (touchL (evO tm) (opdT op)) (effB op) True (lk hp .nil (base + 16 * j) = .nil) P hp (base + 16 * j) j ms fT fW J JU JC) : ADE P T nt all ms base (j :: os) tm hp fT fW G :=
 ADE_gen (dst := none) hj rfl rfl (tm1 := tm) (fun tm0 e => ⟨tm0, e, .inl ⟨rfl, rfl⟩⟩) (put := fun _ => tm) (fun _ _ e => e) h
theorem ADE_grd {a3 : _} {a4 : _} {a5 : _} {t : Nat} (hj : all[j]? = some ⟨some d, op, a3, a4, a5, some (i, want)⟩) (hd : d < nt) (ht : gT all i = some t) (hn : lk hp .nil (base + 16 * j) = .nil)
  (h : ∀ (Jr Js : Bool → Prop) (J0 : Prop), (∀ b, (∀ (J : AV → List (Nat × List Nat) → Prop) (JU : AV → Nat × Ob → List (Nat × List Nat) → List (Nat × Nat) → Prop) (JC : AV → Hl → Prop), (∀ x a, ADE P T nt all ms base os ((d, x) :: (t, .v (.bool b)) :: tm) hp a fW G → J x a) → (∀ x u a b', ADE P T nt all ms base os ((d, x) :: (t, .v (.bool b)) :: tm) (u :: hp) a b' G → JU x u a b') → (∀ x hp', ADE P T nt all ms base os ((d, x) :: (t, .v (.bool b)) :: tm) hp' fT fW G → JC x hp') →
   stepDE (opF T (evO ((t, .v (.bool b)) :: tm)) (LK hp) (base + 16 * j) op) (touchL (evO ((t, .v (.bool b)) :: tm)) (opdT op)) (effB op) (d < nt) (lk hp .nil (base + 16 * j) = .nil) P hp (base + 16 * j) j ms fT fW J JU JC) → Jr b) → (∀ b, ADE P T nt all ms base os ((d, .v undef) :: (t, .v (.bool b)) :: tm) hp fT fW G → Js b) →
   (ADE P T nt all ms base os ((d, .v undef) :: tm) hp fT fW G → J0) → stepGd (lk tm .any t) want Jr Js J0) : ADE P T nt all ms base (j :: os) tm hp fT fW G := by
 have h := h _ _ _ (fun _ h => h) (fun _ h => h) (fun h => h)
 unfold gT at ht
 cases ho : all[i]? with
 | none => rw [ho] at ht; cases ht
 | some o =>
  rw [ho] at ht
  simp only at ht
  have run : lk tm .any t = .v (.bool want) → _ → ADE P T nt all ms base (j :: os) tm hp fT fW G := fun hv k => ADE_gen (dst := some d) hj rfl rfl (tm1 := (t, .v (.bool want)) :: tm) (fun tm0 e => ⟨upd tm0 t (.v (.bool want)), upd_cons e t _, .inr ⟨want, t, by simp only [gdF, ho, ht, e, hv], rfl⟩⟩) (put := fun x => (d, x) :: (t, .v (.bool want)) :: tm) (fun x _ e => upd_cons e d x) k
  have skip : ∀ b, lk tm .any t = .v (.bool b) → b = (!want) → ADE P T nt all ms base os ((d, .v undef) :: (t, .v (.bool b)) :: tm) hp fT fW G → ADE P T nt all ms base (j :: os) tm hp fT fW G := fun b hv hb k tm0 hp0 e1 e2 => by
   rw [AD_eq P T nt all ms base j os tm0 hp0 fT fW G _ hj]
   unfold AD1
   simp only [gdF, ho, ht, e1, hv, stepG]
   subst hb
   cases want
   ·exact ⟨hd, by rw [e2]; exact hn, k _ _ (upd_cons (upd_cons e1 t _) d _) e2⟩
   ·exact ⟨hd, by rw [e2]; exact hn, k _ _ (upd_cons (upd_cons e1 t _) d _) e2⟩
  cases hv : lk tm .any t with
  | v y =>
   rw [hv] at h
   cases y with
   | bool e =>
    simp only [stepGd] at h
    by_cases he : e = want
    ·subst he; exact run hv (h.1 rfl)
    ·have he' : e = (!want) := by cases e <;> cases want <;> simp_all
     exact skip e hv he' (he' ▸ h.2 he')
   | tuple a =>
    intro tm0 hp0 e1 e2
    rw [AD_eq P T nt all ms base j os tm0 hp0 fT fW G _ hj]
    unfold AD1
    simp only [gdF, ho, ht, e1, hv, stepG]
    exact ⟨hd, by rw [e2]; exact hn, h _ _ (upd_cons e1 d _) e2⟩
   | _ => exact h.elim
  | _ => rw [hv] at h; exact h.elim
end
section
variable {P : Program} {T : Tys} {nt ne : Nat} {D : List Oper → St → (St → Prop) → Prop} {Q : Exit → St → Prop} {σ : St}
theorem AW_seqC {a b : Code} (h : ∀ K : St → Prop, ClK nt ne K → (∀ σ, AW P T nt ne D b Q σ → K σ) → AW P T nt ne D a (thenA K Q) σ) : AW P T nt ne D (.seq a b) Q σ :=
 h _ ⟨fun _ _ hw ⟨σ2, h2, k⟩ => ⟨σ2, hw.trans h2, k⟩⟩ fun σ h => ⟨σ, .rfl', h⟩
def lkR : List (Nat × List Nat) → Nat → Option (List Nat)
 | [], _ => none
 | p :: l, i => if p.1 = i then some p.2 else lkR l i
theorem AW_regK (lv : List (Nat × List Nat)) {id : Nat} {l : List Oper} {nx : Nat} {tm : List (Nat × AV)} {hp : Hl} {ts : List Nat} (hl : lkR lv id = some ts) (h : AE P T nt l l nx tm hp (KP ts (Q .normal))) : AW P T nt ne D (.region id l.toArray false) Q ⟨nx, tm, hp⟩ := h _ _ rfl rfl
theorem AW_regDK (lv : List (Nat × List Nat)) (tb : List (Nat × List Nat × List Nat)) {id : Nat} {l : List Oper} {nx : Nat} {tm : List (Nat × AV)} {hp : Hl} {ord ms ts : List Nat} (hv : lkR lv id = some ts) (hl : lkO tb id = (ord, ms)) (hok : drawOk l ord ms = true) (h : ADE P T nt l ms nx ord tm hp [] [] (KP ts (Q .normal))) : AW P T nt ne (DD P T nt) (.region id l.toArray true) Q ⟨nx, tm, hp⟩ :=
 ⟨ord, ms, hok, h _ _ rfl rfl⟩
theorem AW_loopC {a : Code} (I : Nat → St → Prop) (l0 l : List (Nat × Nat)) (d : Nat) (ts : List Nat) (nx : Nat) (hl0 : finOk ne l0) (hl : finOk ne l) (h0 : ∃ n, I n (finS l0 d ts nx σ))
  (h : ∀ n σ', I n σ' → ∀ K : St → Prop, ClK nt ne K → (∀ m σ'', m < n → I m (finS l d ts nx σ'') → K σ'') → AW P T nt ne D a (thenA K Q) σ') : AW P T nt ne D (.loop a) Q σ := by
 obtain ⟨n, h0⟩ := h0
 refine ⟨I, ⟨n, _, wk_fin hl0, h0⟩, fun n σ' hI => h n σ' hI _ ⟨fun _ _ hw ⟨n', σ0, h1, h2, h3⟩ => ⟨n', σ0, h1, hw.trans h2, h3⟩⟩ fun m σ'' hm hI2 => ⟨m, _, hm, wk_fin hl, hI2⟩⟩
theorem AW_forC {a : Code} (n : Nat) (S : Nat → St → Prop) (l0 l : List (Nat × Nat)) (d : Nat) (ts : List Nat) (nx : Nat) (hl0 : finOk ne l0) (hl : finOk ne l) (h0 : S 0 (finS l0 d ts nx σ))
  (h : ∀ k σ', k ≤ n → S k σ' → ∀ K : St → Prop, ClK nt ne K → (∀ σ'', k < n → S (k + 1) (finS l d ts nx σ'') → K σ'') → AW P T nt ne D a (thenA K Q) σ') : AW P T nt ne D (.loop a) Q σ := by
 refine AW_loopC (fun m σ => ∃ k, k ≤ n ∧ m = n - k ∧ S k σ) l0 l d ts nx hl0 hl ⟨_, 0, Nat.zero_le _, rfl, h0⟩ ?_
 rintro m σ' ⟨k, hk, rfl, hR⟩ K hc hK
 exact h k σ' hk hR K hc fun σ'' hlt hR' => hK _ σ'' (by omega) ⟨k + 1, hlt, rfl, hR'⟩
end
def mapP (g : Operand → AV) (l : List (Nat × Operand)) : List (Nat × AV) := l.map fun y => (y.1, g y.2)
def mapO (g : Operand → AV) (l : List Operand) : List AV := l.map g
def callV (v : AV) (xs : List AV) : Rs := match v with
 | .clo n l => .call n (xs ++ l)
 | _ => .bad
section
variable {T : Tys} {tm : List (Nat × AV)} {h : HF} {nm : Nat} (g : Operand → AV)
theorem lk_cons {β : Type} {s t : Nat} (x d : β) (l : List (Nat × β)) : lk ((s, x) :: l) d t = if s = t then x else lk l d t := rfl
theorem lk_none {β : Type} (d : β) (t : Nat) : lk ([] : List (Nat × β)) d t = d := rfl
theorem evO_tmp (t : Nat) : evO tm (.tmp t) = lk tm .any t := rfl
theorem evO_const (x : Value) : evO tm (.const x) = .v x := rfl
theorem evO_func (f : Nat) : evO tm (.func f) = .clo f [] := rfl
theorem evO_glob (n : Nat) : evO tm (.global n) = .v (.pointer (some ⟨n, 0, none⟩)) := rfl
theorem opF_move (x : Operand) : opF T g h nm (.move x) = .pure (g x) := rfl
theorem opF_assign (x : Operand) : opF T g h nm (.assign x) = .pure (g x) := rfl
theorem opF_pick (c a b : Operand) : opF T g h nm (.pick c a b) = pickF (g c) (g a) (g b) := rfl
theorem opF_box (t : Nat) (x : Operand) : opF T g h nm (.box t x) = .out (boxable (g x) = true) (.ref nm 0 0 0) [(nm, .arr 0 (g x).cs.length [g x])] := rfl
theorem mapP_nil : mapP g [] = [] := rfl
theorem mapP_cons (i : Nat) (X : Operand) (l : List (Nat × Operand)) : mapP g ((i, X) :: l) = (i, g X) :: mapP g l := rfl
theorem mapO_nil : mapO g [] = [] := rfl
theorem mapO_cons (X : Operand) (l : List Operand) : mapO g (X :: l) = g X :: mapO g l := rfl
theorem callV_clo (n : Nat) (l xs : List AV) : callV (.clo n l) xs = .call n (xs ++ l) := rfl
theorem opF_build (t : Nat) (ps : List (Nat × Operand)) : opF T g h nm (.build t ps.toArray) = buildF T (T t) (mapP g ps) := rfl
theorem opF_buildSlice (t n : Nat) (ps : List (Nat × Operand)) : opF T g h nm (.buildSlice t n ps.toArray) = buildSliceF T (T t) n (mapP g ps) nm := rfl
theorem opF_callv (f : Operand) (as : List Operand) (ts : Array Nat) : opF T g h nm (.call ⟨.value f, as.toArray, ts⟩) = callV (g f) (mapO g as) := by
 show (match g f with | .clo n l => Rs.call n (as.toArray.toList.map g ++ l) | _ => .bad) = _
 unfold callV mapO
 cases g f <;> simp
def loadG (i : Option TI) (h : HF) (x : AV) : Rs := match i with
 | some i => loadF i h x
 | none => .bad
def storeG (i : Option TI) (h : HF) (x a : AV) : Rs := match i with
 | some i => storeF i h x a
 | none => .bad
theorem loadG_some (i : TI) (x : AV) : loadG (some i) h x = loadF i h x := rfl
theorem storeG_some (i : TI) (x a : AV) : storeG (some i) h x a = storeF i h x a := rfl
theorem opF_load (t : Nat) (a : Operand) : opF T g h nm (.load t a) = loadG (T t) h (g a) := rfl
theorem opF_store (t : Nat) (a x : Operand) : opF T g h nm (.store t a x) = storeG (T t) h (g x) (g a) := rfl
theorem opF_nilCheck (x : Operand) : opF T g h nm (.nilCheck x) = nilCheckF h (g x) := rfl
theorem opF_bin (op : BinOp) (t : Nat) (x y : Operand) (t2 : Nat) : opF T g h nm (.binOp op t x y t2) = binF T h op (T t) (g x) (g y) := rfl
theorem opF_un (op : UnOp) (t : Nat) (x : Operand) : opF T g h nm (.unOp op t x) = unF op (g x) := rfl
theorem opF_conv (s d : Nat) (x : Operand) : opF T g h nm (.convert s d x) = convF (T s) (T d) (g x) := rfl
theorem opF_fieldAddr (s : Nat) (x : Operand) (f : Nat) : opF T g h nm (.fieldAddr s x f) = fieldPtrF T h (T s) f (g x) := rfl
theorem opF_field (s : Nat) (x : Operand) (f : Nat) : opF T g h nm (.field s x f) = fieldValF T (T s) f (g x) := rfl
theorem opF_indexAddr (t : Nat) (x i : Operand) : opF T g h nm (.indexAddr t x i) = indexPtrF T h (T t) (g x) (g i) := rfl
theorem opF_index (t : Nat) (x i : Operand) : opF T g h nm (.index t x i) = indexF T (T t) (g x) (g i) := rfl
theorem opF_extract (x : Operand) (i : Nat) : opF T g h nm (.extract x i) = extractF (g x) i := rfl
theorem opF_slice (t : Nat) (x : Operand) (lo hi mx : Option Operand) : opF T g h nm (.slice t x lo hi mx) = sliceF T h (T t) (g x) (lo.map g) (hi.map g) (mx.map g) nm := rfl
theorem opF_makeSlice (t : Nat) (l c : Operand) : opF T g h nm (.makeSlice t l c) = makeSliceF T (T t) nm (g l) (g c) := rfl
theorem opF_makeFunc (fn : Fn) (a b : List Operand) : opF T g h nm (.makeFunc fn a.toArray b.toArray) = makeFuncF fn (mapO g a) (mapO g b) := rfl
theorem opF_call (cl : Call) : opF T g h nm (.call cl) = callF T g h nm cl := rfl
end
end Go.Proofs.YthblfhgofopcaaaGreat
