/-
  Parts of the proof: VmEn.
-/
import Derived.Test.YthblfhgofopcaaaGreatSH11
set_option linter.all false
namespace Go.Proofs.YthblfhgofopcaaaGreat
open Go.RowKit
variable [DM]
class SB (nt:Nat) (ne:outParam Nat) (K:St→Prop):Prop where
 w:∀σ σ',Wk nt ne σ σ' →K σ' →K σ
class dN (nt:Nat) (ne:outParam Nat) (Q:Exit→St→Prop):Prop where
 w:∀e σ σ',Wk nt ne σ σ' →Q e σ' →Q e σ
section
variable {nt ne:Nat}
instance clq_then (K:St→Prop) (Q:Exit→St→Prop) [hK:SB nt ne K] [hQ:dN nt ne Q]:dN nt ne (Cr K Q):=⟨fun e σ σ' h k=>by
 cases e with
 | normal=>exact hK.w σ σ' h k
 | _=>exact hQ.w _ σ σ' h k⟩
instance clq_block (i:Nat) (Q:Exit→St→Prop) [hQ:dN nt ne Q]:dN nt ne (FK i Q):=⟨fun e σ σ' h k=>by
 cases e with
 | exit j =>
  simp only [FK] at k ⊢
  split
  ·rename_i hj;rw [if_pos hj] at k;exact hQ.w _ σ σ' h k
  ·rename_i hj;rw [if_neg hj] at k;exact hQ.w _ σ σ' h k
 | _=>exact hQ.w _ σ σ' h k⟩
instance clq_scope (Q:Exit→St→Prop) [hQ:dN nt ne Q]:dN nt ne (KL Q):=⟨fun e σ σ' h k=>by
 cases e with
 | goto l=>exact k
 | _=>exact hQ.w _ σ σ' h k⟩
instance clq_ret (T:Dj) (rs:List ResultVar) (R:AV→Hl→Prop):dN nt ne (Z4 T nt rs ne R):=⟨fun _ _ _ h ⟨σ2,h2,k⟩=>⟨σ2,h.trans h2,k⟩⟩
instance clk_norm (Q:Exit→St→Prop) [hQ:dN nt ne Q]:SB nt ne (Q .normal):=⟨fun σ σ' h k=>hQ.w _ σ σ' h k⟩
theorem Wf {σ σ' :St} (h1:lk σ'.tm .any=lk σ.tm .any) (h2:lk σ'.hp .nil=lk σ.hp .nil):Wk nt ne σ σ' :=fun c0 h0 c a _ _ r=>⟨c,rfl,⟨by rw [h2];exact r.kp,by rw [h2];exact r.hp,⟨r.fr.sz,r.fr.df,fun t=>by rw [h1,h2];exact r.fr.tm t⟩⟩⟩
def Hy (ts:List Nat) (tm:List (Nat×AV)):List (Nat×AV):=ts.map fun t=>(t,lk tm .any t)
theorem Qw (tm:List (Nat×AV)) (t:Nat):∀ts:List Nat,lk (Hy ts tm) .any t= .any∨lk (Hy ts tm) .any t=lk tm .any t
 | []=> .inl rfl
 | s::ts=>by
  simp only [Hy,List.map_cons,lk];split
  ·rename_i h;rw [h];exact .inr rfl
  ·exact Qw tm t ts
theorem T1 (ts:List Nat) (σ:St):Wk nt ne σ ⟨σ.nx,Hy ts σ.tm,σ.hp⟩:=fun c0 h0 c a _ _ r=>⟨c,rfl,⟨r.kp,r.hp,⟨r.fr.sz,r.fr.df,fun t=>by
 rcases Qw σ.tm t ts with h | h
 ·rw [h];exact .any _
 ·rw [h];exact r.fr.tm t⟩⟩⟩
end
theorem WB {tm tm0:List (Nat×AV)} (h:lk tm0 .any=lk tm .any):Dd tm0=Dd tm:=by rw [SX,SX,h]
theorem Us {β:Type} (d:β) (t:Nat) (x:β) (l:List (Nat×β)):lk ((t,x)::l) d=fun s=>if t=s then x else lk l d s:=rfl
theorem Cv {β:Type} {d:β} {l l0:List (Nat×β)} (h:lk l0 d=lk l d) (t:Nat) (x:β):lk (Ci l0 t x) d=lk ((t,x)::l) d:=by
 funext s;rw [GV,Us,h]
def dR:List (Nat×Ob)→Hl→Hl
 | [],hp=>hp
 | u::us,hp=>dR us (u::hp)
theorem Jj:∀(us:List (Nat×Ob)) (hp hp0:Hl),lk hp0 .nil=lk hp .nil→lk (Eo us hp0) .nil=lk (dR us hp) .nil
 | [],_,_,h=>h
 | u::us,hp,hp0,h=>Jj us (u::hp) (Ci hp0 u.1 u.2) (Cv h u.1 u.2)
theorem UO (q:Nat→Nat) (hl:Hl) {hp hp0:Hl} (h:lk hp0 .nil=lk hp .nil):lk (HT q hl hp0) .nil=lk (HT q hl hp) .nil:=by
 rw [PB,PB,h]
theorem Ap.lk {P:Program} {f:Nat} {xs:List AV} {hp hp0:Hl} {nm:Nat} {K K0:AV→Hl→Prop} (h:lk hp0 .nil=lk hp .nil) (hK:∀x h1 h2,lk h1 .nil=lk h2 .nil→K x h2→K0 x h1) (hc:Ap P f xs hp nm K):Ap P f xs hp0 nm K0:=by
 obtain ⟨ρ,bm,R,c1,c2,c3,c4,c5⟩:=hc;refine ⟨ρ,bm,R,by rw [h];exact c1,c2,by rw [h];exact c3,by rw [h];exact c4,fun x hl hR=> ?_⟩;obtain ⟨d1,d2,d3,d4⟩:=c5 x hl hR;exact ⟨d1,d2,by rw [h];exact d3,hK _ _ _ (UO _ hl h) d4⟩
theorem Cn.lk {P:Program} {f:Nat} {xs:List AV} {hp hp0:Hl} {nm:Nat} {C:List Nat→Prop} {K K0:AV→Hl→Prop} (h:lk hp0 .nil=lk hp .nil) (hK:∀x h1 h2,lk h1 .nil=lk h2 .nil→K x h2→K0 x h1) (hc:Cn P f xs hp nm C K):Cn P f xs hp0 nm C K0:=by
 obtain ⟨ρ,bm,R,c0,c1,c2,c3,c4,c5⟩:=hc;refine ⟨ρ,bm,R,c0,by rw [h];exact c1,c2,by rw [h];exact c3,by rw [h];exact c4,fun x hl hR=> ?_⟩;obtain ⟨d1,d2,d3,d4⟩:=c5 x hl hR;exact ⟨d1,d2,by rw [h];exact d3,hK _ _ _ (UO _ hl h) d4⟩
def LK (hp:Hl):HF:=lk hp .nil
theorem Tc (s t:Nat) (x:Ob) (l:Hl):LK ((s,x)::l) t=if s=t then x else LK l t:=rfl
theorem Tb (t:Nat):LK [] t= .nil:=rfl
def KP (_ts:List Nat) (G:St→Prop):St→Prop:=G
def AE (P:Program) (T:Dj) (nt:Nat) (all os:List Oper) (nx:Nat) (tm:List (Nat×AV)) (hp:Hl) (G:St→Prop):Prop :=
 ∀tm0 hp0,lk tm0 .any=lk tm .any→lk hp0 .nil=lk hp .nil→EZ P T nt all os nx tm0 hp0 G
def Og (r:Rs) (d:Prop) (fresh:Prop) (P:Program) (hp:Hl) (nx:Nat) (J:Nat→AV→Prop) (JU:Nat→AV→Nat×Ob→Prop) (JC:Nat→AV→Hl→Prop):Prop:=match r with
 | .bad=>False
 | .out p x us=>d∧p∧fresh∧match us with
  | []=>J (nx+16) x
  | [u]=>JU (nx+16) x u
  | _=>False
 | .call f xs=>d∧Ap P f xs hp nx fun x hp' =>JC (nx+16) x hp'
@[go_sem] theorem oL (p:Prop) (x:AV) (d:Prop) (fresh:Prop) (P:Program) (hp:Hl) (nx:Nat) (J:Nat→AV→Prop) (JU:Nat→AV→Nat×Ob→Prop) (JC:Nat→AV→Hl→Prop):Og (.out p x []) d fresh P hp nx J JU JC=(d∧p∧fresh∧J (nx+16) x):=rfl
@[go_sem] theorem nY (p:Prop) (x:AV) (u:Nat×Ob) (d:Prop) (fresh:Prop) (P:Program) (hp:Hl) (nx:Nat) (J:Nat→AV→Prop) (JU:Nat→AV→Nat×Ob→Prop) (JC:Nat→AV→Hl→Prop):Og (.out p x [u]) d fresh P hp nx J JU JC=(d∧p∧fresh∧JU (nx+16) x u):=rfl
@[go_sem] theorem nQ (f:Nat) (xs:List AV) (d:Prop) (fresh:Prop) (P:Program) (hp:Hl) (nx:Nat) (J:Nat→AV→Prop) (JU:Nat→AV→Nat×Ob→Prop) (JC:Nat→AV→Hl→Prop):Og (.call f xs) d fresh P hp nx J JU JC=(d∧Ap P f xs hp nx fun x hp' =>JC (nx+16) x hp'):=rfl
section
variable {P:Program} {T:Dj} {nt ne:Nat} {all os:List Oper} {nx:Nat} {tm:List (Nat×AV)} {hp:Hl} {G:St→Prop} {d:Nat} {op:Op} {a2:Nat} {i:Nat} {want:Bool}
theorem Ws [hG:SB nt ne G] {ts:List Nat} (h:∀J:List (Nat×AV)→Prop,(∀tm',G ⟨nx,tm',hp⟩→J tm')→J (Hy ts tm)):AE P T nt all [] nx tm hp (KP ts G):=by
 intro tm0 hp0 e1 e2;refine hG.w _ _ (Wf (σ' :=⟨nx,tm,hp⟩) e1.symm e2.symm) (hG.w _ _ (T1 ts _) ?_);exact h _ fun _ k=>k
theorem Vk {dst:Option Nat} {o:Oper} (ho:Zs o=op) (hds:UG o=dst) (hg:dD o=none) {put:AV→List (Nat×AV)} (hput:∀x tm0,lk tm0 .any=lk tm .any→lk (Bz tm0 dst x) .any=lk (put x) .any)
  (h:∀(J:Nat→AV→Prop) (JU:Nat→AV→Nat×Ob→Prop) (JC:Nat→AV→Hl→Prop),(∀n x,AE P T nt all os n (put x) hp G→J n x)→(∀n x u,AE P T nt all os n (put x) (u::hp) G→JU n x u)→(∀n x hp',AE P T nt all os n (put x) hp' G→JC n x hp')→
   Og (Du T (Dd tm) (LK hp) nx op) (Cg nt dst) (lk hp .nil nx= .nil) P hp nx J JU JC):AE P T nt all (o::os) nx tm hp G:=by
 intro tm0 hp0 e1 e2;obtain ⟨dst',op',ty,af,ps,g⟩:=o;simp only [Zs,UG,dD] at ho hds hg;subst ho hds hg;have h:=h _ _ _ (fun _ _ h=>h) (fun _ _ _ h=>h) (fun _ _ _ h=>h);unfold LK at h;unfold EZ;simp only [Nv];rw [WB e1,e2];generalize Du T (Dd tm) (lk hp .nil) nx op' =r at h ⊢;cases r with
 | bad=>exact h
 | out p x us =>
  cases us with
  | nil=>exact ⟨h.1,h.2.1,h.2.2.1,h.2.2.2 _ _ (hput x tm0 e1) e2⟩
  | cons u us =>
   cases us with
   | nil=>exact ⟨h.1,h.2.1,h.2.2.1,h.2.2.2 _ _ (hput x tm0 e1) (Jj [u] hp hp0 e2)⟩
   | cons _ _=>exact h.2.2.2.elim
 | call f xs=>exact ⟨h.1,h.2.lk e2 fun x h1 h2 e k=>k _ _ (hput x tm0 e1) e⟩
theorem Df {a3:_} {a4:_} {a5:_} (h:∀(J:Nat→AV→Prop) (JU:Nat→AV→Nat×Ob→Prop) (JC:Nat→AV→Hl→Prop),(∀n x,AE P T nt all os n ((d,x)::tm) hp G→J n x)→(∀n x u,AE P T nt all os n ((d,x)::tm) (u::hp) G→JU n x u)→(∀n x hp',AE P T nt all os n ((d,x)::tm) hp' G→JC n x hp')→
   Og (Du T (Dd tm) (LK hp) nx op) (d<nt) (lk hp .nil nx= .nil) P hp nx J JU JC):AE P T nt all (⟨some d,op,a3,a4,a5,none⟩::os) nx tm hp G :=
 Vk (dst:=some d) (put:=fun x=>(d,x)::tm) rfl rfl rfl (fun x _ e=>Cv e d x) h
theorem De {a3:_} {a4:_} {a5:_} (h:∀(J:Nat→AV→Prop) (JU:Nat→AV→Nat×Ob→Prop) (JC:Nat→AV→Hl→Prop),(∀n x,AE P T nt all os n tm hp G→J n x)→(∀n x u,AE P T nt all os n tm (u::hp) G→JU n x u)→(∀n x hp',AE P T nt all os n tm hp' G→JC n x hp')→
   Og (Du T (Dd tm) (LK hp) nx op) True (lk hp .nil nx= .nil) P hp nx J JU JC):AE P T nt all (⟨none,op,a3,a4,a5,none⟩::os) nx tm hp G :=
 Vk (dst:=none) (put:=fun _=>tm) rfl rfl rfl (fun _ _ e=>e) h
def gT (all:List Oper) (i:Nat):Option Nat:=match all[i]? with
 | some o=>o.dst
 | none=>none
def C9 (v:AV) (want:Bool) (Jr:Bool→Prop) (Js:Bool→Prop) (J0:Prop):Prop:=match v with
 | .v (.bool e)=>(e=want→Jr want)∧(e=(!want)→Js (!want))
 | .v (.tuple _)=>J0
 | _=>False
theorem VO (Jr:Bool→Prop) (Js:Bool→Prop) (J0:Prop):C9 (.v (.bool true)) true Jr Js J0=Jr true:=by simp [C9]
theorem UX (Jr:Bool→Prop) (Js:Bool→Prop) (J0:Prop):C9 (.v (.bool false)) false Jr Js J0=Jr false:=by simp [C9]
theorem Uj (Jr:Bool→Prop) (Js:Bool→Prop) (J0:Prop):C9 (.v (.bool true)) false Jr Js J0=Js true:=by simp [C9]
theorem Ui (Jr:Bool→Prop) (Js:Bool→Prop) (J0:Prop):C9 (.v (.bool false)) true Jr Js J0=Js false:=by simp [C9]
theorem MV {e:Bool} {Jr:Bool→Prop} {Js:Bool→Prop} {J0:Prop} (he:e=true) (h:C9 (.v (.bool true)) want Jr Js J0):C9 (.v (.bool e)) want Jr Js J0:=by rw [he];exact h
theorem NV {e:Bool} {Jr:Bool→Prop} {Js:Bool→Prop} {J0:Prop} (he:e=false) (h:C9 (.v (.bool false)) want Jr Js J0):C9 (.v (.bool e)) want Jr Js J0:=by rw [he];exact h
theorem Pn {e:Bool} {Jr:Bool→Prop} {Js:Bool→Prop} {J0:Prop} (h1:e=true→C9 (.v (.bool true)) want Jr Js J0) (h2:e=false→C9 (.v (.bool false)) want Jr Js J0):C9 (.v (.bool e)) want Jr Js J0:=by
 cases e
 ·exact h2 rfl
 ·exact h1 rfl
attribute [go_sem] VO UX Uj Ui
theorem Tv {dst:Option Nat} {a3:_} {a4:_} {a5:_} {t:Nat} {put:List (Nat×AV)→List (Nat×AV)} (hput:∀tm0 tm,lk tm0 .any=lk tm .any→lk (Bz tm0 dst (.v undef)) .any=lk (put tm) .any) (hd:Cg nt dst) (ht:gT all i=some t)
  (h:∀(Jr Js:Bool→Prop) (J0:Prop),(∀b,AE P T nt all (⟨dst,op,a3,a4,a5,none⟩::os) nx ((t, .v (.bool b))::tm) hp G→Jr b)→(∀b,AE P T nt all os nx (put ((t, .v (.bool b))::tm)) hp G→Js b)→
   (AE P T nt all os nx (put tm) hp G→J0)→C9 (lk tm .any t) want Jr Js J0):AE P T nt all (⟨dst,op,a3,a4,a5,some (i,want)⟩::os) nx tm hp G:=by
 have h:=h _ _ _ (fun _ h=>h) (fun _ h=>h) (fun h=>h);intro tm0 hp0 e1 e2;unfold gT at ht;cases ho:all[i]? with
 | none=>rw [ho] at ht;cases ht
 | some o =>
  rw [ho] at ht;simp only at ht;have run:∀b,lk tm .any t= .v (.bool b)→AE P T nt all (⟨dst,op,a3,a4,a5,none⟩::os) nx ((t, .v (.bool b))::tm) hp G→(match Du T (Dd (Ci tm0 t (.v (.bool b)))) (lk hp0 .nil) nx op with
    | .bad=>False
    | .out p x us=>Cg nt dst∧p∧lk hp0 .nil nx= .nil∧EZ P T nt all os (nx+16) (Bz (Ci tm0 t (.v (.bool b))) dst x) (Eo us hp0) G
    | .call f xs=>Cg nt dst∧Ap P f xs hp0 nx fun x hp' =>I7 (EZ P T nt all os (nx+16) (Bz (Ci tm0 t (.v (.bool b))) dst x) hp' G)):=fun b hb k=>by
   have:=k (Ci tm0 t (.v (.bool b))) hp0 (Cv e1 t _) e2;unfold EZ at this;simp only [Nv] at this;exact this
  unfold EZ;simp only [Nv,ho,ht,e1];cases hv:lk tm .any t with
  | v y =>
   rw [hv] at h;cases y with
   | bool e =>
    simp only [C9] at h;cases e<;>cases want
    ·exact run false hv (h.1 rfl)
    ·exact ⟨hd,h.2 rfl _ _ (hput _ _ (Cv e1 t _)) e2⟩
    ·exact ⟨hd,h.2 rfl _ _ (hput _ _ (Cv e1 t _)) e2⟩
    ·exact run true hv (h.1 rfl)
   | tuple a=>exact ⟨hd,h _ _ (hput _ _ e1) e2⟩
   | _=>exact h.elim
  | _=>rw [hv] at h;exact h.elim
theorem Sh {a3:_} {a4:_} {a5:_} {t:Nat} (hd:d<nt) (ht:gT all i=some t)
  (h:∀(Jr Js:Bool→Prop) (J0:Prop),(∀b,AE P T nt all (⟨some d,op,a3,a4,a5,none⟩::os) nx ((t, .v (.bool b))::tm) hp G→Jr b)→(∀b,AE P T nt all os nx ((d, .v undef)::(t, .v (.bool b))::tm) hp G→Js b)→
   (AE P T nt all os nx ((d, .v undef)::tm) hp G→J0)→C9 (lk tm .any t) want Jr Js J0):AE P T nt all (⟨some d,op,a3,a4,a5,some (i,want)⟩::os) nx tm hp G :=
 Tv (dst:=some d) (put:=fun tm=>(d, .v undef)::tm) (fun _ _ e=>Cv e d _) hd ht h
theorem PY {a3:_} {a4:_} {a5:_} {t:Nat} (ht:gT all i=some t)
  (h:∀(Jr Js:Bool→Prop) (J0:Prop),(∀b,AE P T nt all (⟨none,op,a3,a4,a5,none⟩::os) nx ((t, .v (.bool b))::tm) hp G→Jr b)→(∀b,AE P T nt all os nx ((t, .v (.bool b))::tm) hp G→Js b)→
   (AE P T nt all os nx tm hp G→J0)→C9 (lk tm .any t) want Jr Js J0):AE P T nt all (⟨none,op,a3,a4,a5,some (i,want)⟩::os) nx tm hp G :=
 Tv (dst:=none) (put:=fun tm=>tm) (fun _ _ e=>e) trivial ht h
end
def Iw (P:Program) (T:Dj) (nt:Nat) (all:List Oper) (ms:List Nat) (base:Nat) (os:List Nat) (tm:List (Nat×AV)) (hp:Hl) (fT:List (Nat×List Nat)) (fW:List (Nat×Nat)) (G:St→Prop):Prop :=
 ∀tm0 hp0,lk tm0 .any=lk tm .any→lk hp0 .nil=lk hp .nil→AD P T nt all ms base os tm0 hp0 fT fW G
def GS (r:Rs) (ts:List Nat) (eff:Bool) (d:Prop) (fresh:Prop) (P:Program) (hp:Hl) (nm j:Nat) (ms:List Nat) (fT:List (Nat×List Nat)) (fW:List (Nat×Nat)) (J:AV→List (Nat×List Nat)→Prop) (JU:AV→Nat×Ob→List (Nat×List Nat)→List (Nat×Nat)→Prop) (JC:AV→Hl→Prop):Prop:=match r with
 | .bad=>False
 | .out p x us=>d∧p∧fresh∧FC ms fW j ts=true∧match us with
  | []=>match eff with
   | true=>J x fT
   | false=>J x (Kg j ts fT)
  | [u]=>match eff with
   | true=>Ka ms fT fW j [u.1]=true∧JU x u fT fW
   | false=>[u.1].all (MZ fT ts)=true∧JU x u (Kg j ts fT) (PQ j [u.1] fW)
  | _=>False
 | .call f xs=>d∧FC ms fW j ts=true∧Cn P f xs hp nm (fun ρ=>Lt nm ms fT fW j ρ xs (ρ.map (lk hp .nil))=true) fun x hp' =>JC x hp'
section
variable (p:Prop) (x:AV) (u:Nat×Ob) (f:Nat) (xs:List AV) (ts:List Nat) (eff:Bool) (d:Prop) (fresh:Prop) (P:Program) (hp:Hl) (nm j:Nat) (ms:List Nat) (fT:List (Nat×List Nat)) (fW:List (Nat×Nat)) (J:AV→List (Nat×List Nat)→Prop) (JU:AV→Nat×Ob→List (Nat×List Nat)→List (Nat×Nat)→Prop) (JC:AV→Hl→Prop)
@[go_sem] theorem iS:GS (.out p x []) ts true d fresh P hp nm j ms fT fW J JU JC=(d∧p∧fresh∧FC ms fW j ts=true∧J x fT):=rfl
@[go_sem] theorem iZ:GS (.out p x []) ts false d fresh P hp nm j ms fT fW J JU JC=(d∧p∧fresh∧FC ms fW j ts=true∧J x (Kg j ts fT)):=rfl
@[go_sem] theorem iQ:GS (.out p x [u]) ts true d fresh P hp nm j ms fT fW J JU JC=(d∧p∧fresh∧FC ms fW j ts=true∧Ka ms fT fW j [u.1]=true∧JU x u fT fW):=rfl
@[go_sem] theorem jC:GS (.out p x [u]) ts false d fresh P hp nm j ms fT fW J JU JC=(d∧p∧fresh∧FC ms fW j ts=true∧[u.1].all (MZ fT ts)=true∧JU x u (Kg j ts fT) (PQ j [u.1] fW)):=rfl
@[go_sem] theorem jQ:GS (.call f xs) ts eff d fresh P hp nm j ms fT fW J JU JC=(d∧FC ms fW j ts=true∧Cn P f xs hp nm (fun ρ=>Lt nm ms fT fW j ρ xs (ρ.map (lk hp .nil))=true) fun x hp' =>JC x hp'):=rfl
end
section
variable {P:Program} {T:Dj} {nt ne:Nat} {all:List Oper} {ms os:List Nat} {base j:Nat} {tm:List (Nat×AV)} {hp:Hl} {fT:List (Nat×List Nat)} {fW:List (Nat×Nat)} {G:St→Prop} {d:Nat} {op:Op} {i:Nat} {want:Bool}
theorem T5 [hG:SB nt ne G] {ts:List Nat} (h:∀J:Nat→List (Nat×AV)→Prop,(∀n tm',G ⟨n,tm',hp⟩→J n tm')→J (base+1024) (Hy ts tm)):Iw P T nt all ms base [] tm hp fT fW (KP ts G):=by
 intro tm0 hp0 e1 e2;refine hG.w _ _ (Wf (σ' :=⟨base+16*all.length,tm,hp⟩) e1.symm e2.symm) (hG.w _ _ (T1 ts _) (hG.w _ _ (Wf (σ' :=⟨base+1024,Hy ts tm,hp⟩) rfl rfl) ?_));exact h _ fun _ _ k=>k
theorem Py {dst:Option Nat} {o:Oper} (hj:all[j]? =some o) (ho:Zs o=op) (hds:UG o=dst) {tm1:List (Nat×AV)} (h1:∀tm0,lk tm0 .any=lk tm .any→∃tm0',lk tm0' .any=lk tm1 .any∧(Nv all tm0 o.guard= .run∧tm0' =tm0∨∃b t,Nv all tm0 o.guard= .ask b t b∧tm0' =Ci tm0 t (.v (.bool b))))
  {put:AV→List (Nat×AV)} (hput:∀x tm0,lk tm0 .any=lk tm1 .any→lk (Bz tm0 dst x) .any=lk (put x) .any)
  (h:∀(J:AV→List (Nat×List Nat)→Prop) (JU:AV→Nat×Ob→List (Nat×List Nat)→List (Nat×Nat)→Prop) (JC:AV→Hl→Prop),(∀x a,Iw P T nt all ms base os (put x) hp a fW G→J x a)→(∀x u a b,Iw P T nt all ms base os (put x) (u::hp) a b G→JU x u a b)→(∀x hp',Iw P T nt all ms base os (put x) hp' fT fW G→JC x hp')→
   GS (Du T (Dd tm1) (LK hp) (base+16*j) op) (BE (Dd tm1) (Bx op)) (Ft op) (Cg nt dst) (lk hp .nil (base+16*j)= .nil) P hp (base+16*j) j ms fT fW J JU JC):Iw P T nt all ms base (j::os) tm hp fT fW G:=by
 intro tm0 hp0 e1 e2;obtain ⟨tm0',e3,hg⟩:=h1 tm0 e1;have h:=h _ _ _ (fun _ _ h=>h) (fun _ _ _ _ h=>h) (fun _ _ h=>h);unfold LK at h;rw [Te P T nt all ms base j os tm0 hp0 fT fW G o hj];obtain ⟨dst',op',ty,af,ps,g⟩:=o;simp only [Zs,UG] at ho hds;subst ho hds;have hev:Dd tm0' =Dd tm1:=WB e3;have key:Mn (Du T (Dd tm0') (lk hp0 .nil) (base+16*j) op') (fun p x us=>Cg nt dst' ∧p∧lk hp0 .nil (base+16*j)= .nil∧FC ms fW j (BE (Dd tm0') (Bx op'))=true∧
   UM (Ft op') (Ka ms fT fW j (us.map (·.1))=true∧AD P T nt all ms base os (Bz tm0' dst' x) (Eo us hp0) fT fW G)
    ((us.map (·.1)).all (MZ fT (BE (Dd tm0') (Bx op')))=true∧AD P T nt all ms base os (Bz tm0' dst' x) (Eo us hp0) (Kg j (BE (Dd tm0') (Bx op')) fT) (PQ j (us.map (·.1)) fW) G))
   (fun f xs=>Cg nt dst' ∧FC ms fW j (BE (Dd tm0') (Bx op'))=true∧Cn P f xs hp0 (base+16*j) (fun ρ=>Lt (base+16*j) ms fT fW j ρ xs (ρ.map (lk hp0 .nil))=true) fun x hp' =>AD P T nt all ms base os (Bz tm0' dst' x) hp' fT fW G):=by
  rw [hev,e2];generalize Du T (Dd tm1) (lk hp .nil) (base+16*j) op' =r at h ⊢;generalize BE (Dd tm1) (Bx op')=ts at h ⊢;generalize Ft op' =e at h ⊢;cases r with
  | bad=>exact h
  | out p x us =>
   have hc:∀e',Ka ms fT fW j ([]:List Nat)=e' →e' =true:=fun e' he=>by
    subst he;unfold Ka hit;simp
   cases us with
   | nil =>
    cases e
    ·exact ⟨h.1,h.2.1,h.2.2.1,h.2.2.2.1,rfl,h.2.2.2.2 _ _ (hput x tm0' e3) e2⟩
    ·exact ⟨h.1,h.2.1,h.2.2.1,h.2.2.2.1,hc _ rfl,h.2.2.2.2 _ _ (hput x tm0' e3) e2⟩
   | cons u us =>
    cases us with
    | nil =>
     cases e
     ·exact ⟨h.1,h.2.1,h.2.2.1,h.2.2.2.1,h.2.2.2.2.1,h.2.2.2.2.2 _ _ (hput x tm0' e3) (Jj [u] hp hp0 e2)⟩
     ·exact ⟨h.1,h.2.1,h.2.2.1,h.2.2.2.1,h.2.2.2.2.1,h.2.2.2.2.2 _ _ (hput x tm0' e3) (Jj [u] hp hp0 e2)⟩
    | cons _ _=>exact h.2.2.2.2.elim
  | call f xs=>exact ⟨h.1,h.2.1,h.2.2.lk e2 fun x h1 h2 e k=>k _ _ (hput x tm0' e3) e⟩
 unfold gG;rcases hg with ⟨hg,rfl⟩ | ⟨b,t,hg,rfl⟩
 ·rw [hg];exact key
 ·rw [hg];cases b<;>exact key
theorem Cq {a3:_} {a4:_} {a5:_} (hj:all[j]? =some ⟨some d,op,a3,a4,a5,none⟩)
  (h:∀(J:AV→List (Nat×List Nat)→Prop) (JU:AV→Nat×Ob→List (Nat×List Nat)→List (Nat×Nat)→Prop) (JC:AV→Hl→Prop),(∀x a,Iw P T nt all ms base os ((d,x)::tm) hp a fW G→J x a)→(∀x u a b,Iw P T nt all ms base os ((d,x)::tm) (u::hp) a b G→JU x u a b)→(∀x hp',Iw P T nt all ms base os ((d,x)::tm) hp' fT fW G→JC x hp')→
   GS (Du T (Dd tm) (LK hp) (base+16*j) op) (BE (Dd tm) (Bx op)) (Ft op) (d<nt) (lk hp .nil (base+16*j)= .nil) P hp (base+16*j) j ms fT fW J JU JC):Iw P T nt all ms base (j::os) tm hp fT fW G :=
 Py (dst:=some d) hj rfl rfl (tm1:=tm) (fun tm0 e=>⟨tm0,e, .inl ⟨rfl,rfl⟩⟩) (put:=fun x=>(d,x)::tm) (fun x _ e=>Cv e d x) h
theorem Cp {a3:_} {a4:_} {a5:_} (hj:all[j]? =some ⟨none,op,a3,a4,a5,none⟩)
  (h:∀(J:AV→List (Nat×List Nat)→Prop) (JU:AV→Nat×Ob→List (Nat×List Nat)→List (Nat×Nat)→Prop) (JC:AV→Hl→Prop),(∀x a,Iw P T nt all ms base os tm hp a fW G→J x a)→(∀x u a b,Iw P T nt all ms base os tm (u::hp) a b G→JU x u a b)→(∀x hp',Iw P T nt all ms base os tm hp' fT fW G→JC x hp')→
   GS (Du T (Dd tm) (LK hp) (base+16*j) op) (BE (Dd tm) (Bx op)) (Ft op) True (lk hp .nil (base+16*j)= .nil) P hp (base+16*j) j ms fT fW J JU JC):Iw P T nt all ms base (j::os) tm hp fT fW G :=
 Py (dst:=none) hj rfl rfl (tm1:=tm) (fun tm0 e=>⟨tm0,e, .inl ⟨rfl,rfl⟩⟩) (put:=fun _=>tm) (fun _ _ e=>e) h
theorem PV {a3:_} {a4:_} {a5:_} {t:Nat} (hj:all[j]? =some ⟨some d,op,a3,a4,a5,some (i,want)⟩) (hd:d<nt) (ht:gT all i=some t) (hn:lk hp .nil (base+16*j)= .nil)
  (h:∀(Jr Js:Bool→Prop) (J0:Prop),(∀b,(∀(J:AV→List (Nat×List Nat)→Prop) (JU:AV→Nat×Ob→List (Nat×List Nat)→List (Nat×Nat)→Prop) (JC:AV→Hl→Prop),(∀x a,Iw P T nt all ms base os ((d,x)::(t, .v (.bool b))::tm) hp a fW G→J x a)→(∀x u a b',Iw P T nt all ms base os ((d,x)::(t, .v (.bool b))::tm) (u::hp) a b' G→JU x u a b')→(∀x hp',Iw P T nt all ms base os ((d,x)::(t, .v (.bool b))::tm) hp' fT fW G→JC x hp')→
   GS (Du T (Dd ((t, .v (.bool b))::tm)) (LK hp) (base+16*j) op) (BE (Dd ((t, .v (.bool b))::tm)) (Bx op)) (Ft op) (d<nt) (lk hp .nil (base+16*j)= .nil) P hp (base+16*j) j ms fT fW J JU JC)→Jr b)→(∀b,Iw P T nt all ms base os ((d, .v undef)::(t, .v (.bool b))::tm) hp fT fW G→Js b)→
   (Iw P T nt all ms base os ((d, .v undef)::tm) hp fT fW G→J0)→C9 (lk tm .any t) want Jr Js J0):Iw P T nt all ms base (j::os) tm hp fT fW G:=by
 have h:=h _ _ _ (fun _ h=>h) (fun _ h=>h) (fun h=>h);unfold gT at ht;cases ho:all[i]? with
 | none=>rw [ho] at ht;cases ht
 | some o =>
  rw [ho] at ht;simp only at ht;have run:lk tm .any t= .v (.bool want)→_→Iw P T nt all ms base (j::os) tm hp fT fW G:=fun hv k=>Py (dst:=some d) hj rfl rfl (tm1:=(t, .v (.bool want))::tm) (fun tm0 e=>⟨Ci tm0 t (.v (.bool want)),Cv e t _, .inr ⟨want,t,by simp only [Nv,ho,ht,e,hv],rfl⟩⟩) (put:=fun x=>(d,x)::(t, .v (.bool want))::tm) (fun x _ e=>Cv e d x) k
  have skip:∀b,lk tm .any t= .v (.bool b)→b=(!want)→Iw P T nt all ms base os ((d, .v undef)::(t, .v (.bool b))::tm) hp fT fW G→Iw P T nt all ms base (j::os) tm hp fT fW G:=fun b hv hb k tm0 hp0 e1 e2=>by
   rw [Te P T nt all ms base j os tm0 hp0 fT fW G _ hj];unfold gG;simp only [Nv,ho,ht,e1,hv,Ge];subst hb;cases want
   ·exact ⟨hd,by rw [e2];exact hn,k _ _ (Cv (Cv e1 t _) d _) e2⟩
   ·exact ⟨hd,by rw [e2];exact hn,k _ _ (Cv (Cv e1 t _) d _) e2⟩
  cases hv:lk tm .any t with
  | v y =>
   rw [hv] at h;cases y with
   | bool e =>
    simp only [C9] at h;by_cases he:e=want
    ·subst he;exact run hv (h.1 rfl)
    ·have he' :e=(!want):=by cases e<;>cases want<;>simp_all
     exact skip e hv he' (he' ▸ h.2 he')
   | tuple a =>
    intro tm0 hp0 e1 e2;rw [Te P T nt all ms base j os tm0 hp0 fT fW G _ hj];unfold gG;simp only [Nv,ho,ht,e1,hv,Ge];exact ⟨hd,by rw [e2];exact hn,h _ _ (Cv e1 d _) e2⟩
   | _=>exact h.elim
  | _=>rw [hv] at h;exact h.elim
end
section
variable {P:Program} {T:Dj} {nt ne:Nat} {D:List Oper→St→(St→Prop)→Prop} {Q:Exit→St→Prop} {σ:St}
theorem D1 {a b:Code} (h:∀K:St→Prop,SB nt ne K→(∀σ,AW P T nt ne D b Q σ→K σ)→AW P T nt ne D a (Cr K Q) σ):AW P T nt ne D (.seq a b) Q σ :=
 h _ ⟨fun _ _ hw ⟨σ2,h2,k⟩=>⟨σ2,hw.trans h2,k⟩⟩ fun σ h=>⟨σ, .rfl',h⟩
def rL:List (Nat×List Nat)→Nat→Option (List Nat)
 | [],_=>none
 | p::l,i=>if p.1=i then some p.2 else rL l i
theorem Ti (lv:List (Nat×List Nat)) {id:Nat} {l:List Oper} {nx:Nat} {tm:List (Nat×AV)} {hp:Hl} {ts:List Nat} (hl:rL lv id=some ts) (h:AE P T nt l l nx tm hp (KP ts (Q .normal))):AW P T nt ne D (.region id l.toArray false) Q ⟨nx,tm,hp⟩:=h _ _ rfl rfl
theorem Q1 (lv:List (Nat×List Nat)) (tb:List (Nat×List Nat×List Nat)) {id:Nat} {l:List Oper} {nx:Nat} {tm:List (Nat×AV)} {hp:Hl} {ord ms ts:List Nat} (hv:rL lv id=some ts) (hl:s5 tb id=(ord,ms)) (hok:KY l ord ms=true) (h:Iw P T nt l ms nx ord tm hp [] [] (KP ts (Q .normal))):AW P T nt ne (DD P T nt) (.region id l.toArray true) Q ⟨nx,tm,hp⟩ :=
 ⟨ord,ms,hok,h _ _ rfl rfl⟩
theorem DU {a:Code} (I:Nat→St→Prop) (l0 l:List (Nat×Nat)) (d:Nat) (ts:List Nat) (nx:Nat) (hl0:C0 ne l0) (hl:C0 ne l) (h0:∃n,I n (Fj l0 d ts nx σ))
  (h:∀n σ',I n σ' →∀K:St→Prop,SB nt ne K→(∀m σ'',m<n→I m (Fj l d ts nx σ'')→K σ'')→AW P T nt ne D a (Cr K Q) σ'):AW P T nt ne D (.loop a) Q σ:=by
 obtain ⟨n,h0⟩:=h0;refine ⟨I,⟨n,_,HH hl0,h0⟩,fun n σ' hI=>h n σ' hI _ ⟨fun _ _ hw ⟨n',σ0,h1,h2,h3⟩=>⟨n',σ0,h1,hw.trans h2,h3⟩⟩ fun m σ'' hm hI2=>⟨m,_,hm,HH hl,hI2⟩⟩
theorem Ab {a:Code} (n:Nat) (S:Nat→St→Prop) (l0 l:List (Nat×Nat)) (d:Nat) (ts:List Nat) (nx:Nat) (hl0:C0 ne l0) (hl:C0 ne l) (h0:S 0 (Fj l0 d ts nx σ))
  (h:∀k σ',k≤n→S k σ' →∀K:St→Prop,SB nt ne K→(∀σ'',k<n→S (k+1) (Fj l d ts nx σ'')→K σ'')→AW P T nt ne D a (Cr K Q) σ'):AW P T nt ne D (.loop a) Q σ:=by
 refine DU (fun m σ=>∃k,k≤n∧m=n-k∧S k σ) l0 l d ts nx hl0 hl ⟨_,0,Nat.zero_le _,rfl,h0⟩ ?_;rintro m σ' ⟨k,hk,rfl,hR⟩ K hc hK;exact h k σ' hk hR K hc fun σ'' hlt hR' =>hK _ σ'' (by omega) ⟨k+1,hlt,rfl,hR'⟩
end
def YM (g:Operand→AV) (l:List (Nat×Operand)):List (Nat×AV):=l.map fun y=>(y.1,g y.2)
def TH (g:Operand→AV) (l:List Operand):List AV:=l.map g
def WL (v:AV) (xs:List AV):Rs:=match v with
 | .clo n l=> .call n (xs++l)
 | _=> .bad
section
variable {T:Dj} {tm:List (Nat×AV)} {h:HF} {nm:Nat} (g:Operand→AV)
theorem IR {β:Type} {s t:Nat} (x d:β) (l:List (Nat×β)):lk ((s,x)::l) d t=if s=t then x else lk l d t:=rfl
theorem Ir {β:Type} (d:β) (t:Nat):lk ([]:List (Nat×β)) d t=d:=rfl
theorem Tj (t:Nat):Dd tm (.tmp t)=lk tm .any t:=rfl
theorem OU (x:Value):Dd tm (.const x)= .v x:=rfl
theorem Qy (f:Nat):Dd tm (.func f)= .clo f []:=rfl
theorem RD (n:Nat):Dd tm (.global n)= .v (.pointer (some ⟨n,0,none⟩)):=rfl
theorem Qp (x:Operand):Du T g h nm (.move x)= .pure (g x):=rfl
theorem MW (x:Operand):Du T g h nm (.assign x)= .pure (g x):=rfl
theorem Rq (c a b:Operand):Du T g h nm (.pick c a b)=Mt (g c) (g a) (g b):=rfl
theorem UH (t:Nat) (x:Operand):Du T g h nm (.box t x)= .out (Ce (g x)=true) (.ref nm 0 0 0) [(nm, .arr 0 (g x).cs.length [g x])]:=rfl
theorem QK:YM g []=[]:=rfl
theorem Ot (i:Nat) (X:Operand) (l:List (Nat×Operand)):YM g ((i,X)::l)=(i,g X)::YM g l:=rfl
theorem RV:TH g []=[]:=rfl
theorem OJ (X:Operand) (l:List Operand):TH g (X::l)=g X::TH g l:=rfl
theorem Oe (n:Nat) (l xs:List AV):WL (.clo n l) xs= .call n (xs++l):=rfl
theorem OV (t:Nat) (ps:List (Nat×Operand)):Du T g h nm (.build t ps.toArray)=JW T (T t) (YM g ps):=rfl
theorem IB (t n:Nat) (ps:List (Nat×Operand)):Du T g h nm (.buildSlice t n ps.toArray)=Dq T (T t) n (YM g ps) nm:=rfl
theorem OM (f:Operand) (wJ:List Operand) (ts:Array Nat):Du T g h nm (.call ⟨.value f,wJ.toArray,ts⟩)=WL (g f) (TH g wJ):=by
 show (match g f with | .clo n l=>Rs.call n (wJ.toArray.toList.map g++l) | _=> .bad)=_;unfold WL TH;cases g f<;>simp
def dQ (i:Option TI) (h:HF) (x:AV):Rs:=match i with
 | some i=>FA i h x
 | none=> .bad
def Wt (i:Option TI) (h:HF) (x a:AV):Rs:=match i with
 | some i=>FS i h x a
 | none=> .bad
theorem Na (i:TI) (x:AV):dQ (some i) h x=FA i h x:=rfl
theorem LI (i:TI) (x a:AV):Wt (some i) h x a=FS i h x a:=rfl
theorem RB (t:Nat) (a:Operand):Du T g h nm (.load t a)=dQ (T t) h (g a):=rfl
theorem OH (t:Nat) (a x:Operand):Du T g h nm (.store t a x)=Wt (T t) h (g x) (g a):=rfl
theorem KG (x:Operand):Du T g h nm (.nilCheck x)=Da h (g x):=rfl
theorem UE (op:BinOp) (t:Nat) (x y:Operand) (t2:Nat):Du T g h nm (.binOp op t x y t2)=N2 T h op (T t) (g x) (g y):=rfl
theorem WG (op:UnOp) (t:Nat) (x:Operand):Du T g h nm (.unOp op t x)=eF op (g x):=rfl
theorem R8 (s d:Nat) (x:Operand):Du T g h nm (.convert s d x)=NO (T s) (T d) (g x):=rfl
theorem Iz (s:Nat) (x:Operand) (f:Nat):Du T g h nm (.fieldAddr s x f)=DZ T h (T s) f (g x):=rfl
theorem OW (s:Nat) (x:Operand) (f:Nat):Du T g h nm (.field s x f)=Eu T (T s) f (g x):=rfl
theorem JE (t:Nat) (x i:Operand):Du T g h nm (.indexAddr t x i)=Db T h (T t) (g x) (g i):=rfl
theorem O7 (t:Nat) (x i:Operand):Du T g h nm (.index t x i)=JS T (T t) (g x) (g i):=rfl
theorem Kz (x:Operand) (i:Nat):Du T g h nm (.extract x i)=F6 (g x) i:=rfl
theorem O8 (t:Nat) (x:Operand) (lo hi mx:Option Operand):Du T g h nm (.slice t x lo hi mx)=Fl T h (T t) (g x) (lo.map g) (hi.map g) (mx.map g) nm:=rfl
theorem JH (t:Nat) (l c:Operand):Du T g h nm (.makeSlice t l c)=EF T (T t) nm (g l) (g c):=rfl
theorem Jp (fn:Fn) (a b:List Operand):Du T g h nm (.makeFunc fn a.toArray b.toArray)=Es fn (TH g a) (TH g b):=rfl
theorem Qm (cl:Call):Du T g h nm (.call cl)=H7 T g h nm cl:=rfl
end
end Go.Proofs.YthblfhgofopcaaaGreat
