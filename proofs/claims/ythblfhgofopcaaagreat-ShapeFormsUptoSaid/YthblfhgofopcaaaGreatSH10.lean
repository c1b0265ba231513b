/-
  Parts of the proof: VmP.
-/
import Derived.Test.YthblfhgofopcaaaGreatSH09
set_option linter.all false
namespace Go.Proofs.YthblfhgofopcaaaGreat
open Go.RowKit
variable [DM]
section
variable {T:Dj} {g:Operand→AV} {h:HF} {nm:Nat}
theorem eN {op:Op} {p:Prop} {x:AV} {us:List (Nat×Ob)} (hr:Du T g h nm op= .out p x us):∀u∈us,u.1=nm∨h u.1≠ .nil:=by
 by_cases he:Ft op=false
 ·have:=Pv (T:=T) (g:=g) (h:=h) (nm:=nm) he;rw [hr] at this;exact fun u hu=> .inl (this u hu)
 ·cases op<;>try (exact absurd rfl he)
  case store t a x =>
   simp only [Du] at hr;split at hr
   ·unfold FS at hr;split at hr
    ·split at hr
     ·rename_i hx;injection hr with _ _ hr
      subst hr;intro u hu;simp at hu;subst hu;exact .inr (by rw [hx];exact fun h=>by cases h)
     ·cases hr
    ·cases hr
   ·cases hr
  case call cl =>
   obtain ⟨callee,args,ts⟩:=cl;cases callee with
   | builtin b =>
    cases b<;>simp only [Du,H7] at hr<;>try (cases hr;done)
    case len=>exact absurd rfl he
    case append =>
     split at hr
     ·unfold FY at hr;split at hr
      ·split at hr
       ·split at hr
        ·split at hr
         ·injection hr with _ _ hr
          subst hr;intro u hu;simp at hu;subst hu;exact .inl rfl
         ·split at hr
          ·rename_i hx;injection hr with _ _ hr
           subst hr;intro u hu;simp at hu;subst hu;exact .inr (by rw [hx];exact fun h=>by cases h)
          ·cases hr
         ·cases hr
        ·cases hr
       ·cases hr
      ·cases hr
     ·cases hr
    case cap =>
     split at hr
     ·unfold VN at hr;split at hr
      ·split at hr
       ·injection hr with _ _ hr;subst hr;intro u hu;cases hu
       ·cases hr
      ·cases hr
     ·cases hr
    case min =>
     split at hr
     ·unfold V6 at hr;split at hr
      ·injection hr with _ _ hr;subst hr;intro u hu;cases hu
      ·cases hr
     ·cases hr
    case max =>
     split at hr
     ·unfold Xg at hr;split at hr
      ·injection hr with _ _ hr;subst hr;intro u hu;cases hu
      ·cases hr
     ·cases hr
    case copy =>
     split at hr
     ·unfold JY at hr;split at hr
      ·split at hr
       ·split at hr
        ·split at hr
         ·split at hr
          ·rename_i hx;injection hr with _ _ hr
           subst hr;intro u hu;simp at hu;subst hu;exact .inr (by rw [hx];exact fun h=>by cases h)
          ·cases hr
         ·cases hr
        ·cases hr
       ·cases hr
      ·cases hr
     ·cases hr
   | value f =>
    simp only [Du,H7] at hr;split at hr<;>cases hr
   | invoke r m=>simp only [Du,H7] at hr;cases hr
end
def hit (a b:List Nat):Bool:=a.any fun r=>b.contains r
def BE (g:Operand→AV):List Operand→List Nat
 | []=>[]
 | X::l=>Dz (g X)++BE g l
theorem NQ {g:Operand→AV} {l:List Operand} {X:Operand} {r:Nat} (hX:X∈l) (hr:r∈Dz (g X)):r∈BE g l:=by
 induction l with
 | nil=>cases hX
 | cons Y l ih =>
  simp only [BE,List.mem_append];rcases List.mem_cons.1 hX with rfl | hX
  ·exact .inl hr
  ·exact .inr (ih hX)
def FC (ms:List Nat) (fW:List (Nat×Nat)) (j:Nat) (ts:List Nat):Bool:=fW.all fun p=> !ts.contains p.2 || Lv ms p.1 j
def MZ (fT:List (Nat×List Nat)) (ts:List Nat) (nm:Nat):Bool:=fT.all (fun p=> !p.2.contains nm)&& !ts.contains nm
def Ka (ms:List Nat) (fT:List (Nat×List Nat)) (fW:List (Nat×Nat)) (j:Nat) (ws:List Nat):Bool:=(fT.all fun p=> !hit ws p.2 || Lv ms p.1 j)&&fW.all fun p=> !ws.contains p.2 || Lv ms p.1 j
def Lt (nm:Nat) (ms:List Nat) (fT:List (Nat×List Nat)) (fW:List (Nat×Nat)) (j:Nat) (ρ:List Nat) (xs:List AV) (obs:List Ob):Bool :=
 (fT.all fun p=>(!hit ρ p.2&&p.2.all fun r=>Nat.blt r nm || Nat.ble (nm+16) r) || Lv ms p.1 j)&&fW.all fun p=>Lv ms p.1 j || (!ρ.contains p.2&&(awayL p.2 xs&&obs.all (UQ p.2)))
def Kg (j:Nat) (ts:List Nat) (fT:List (Nat×List Nat)):List (Nat×List Nat):=match ts with
 | []=>fT
 | _=>(j,ts)::fT
def PQ (j:Nat) (ws:List Nat) (fW:List (Nat×Nat)):List (Nat×Nat):=ws.map (fun r=>(j,r))++fW
def Cn (P:Program) (f:Nat) (xs:List AV) (hp:Hl) (nm:Nat) (C:List Nat→Prop) (K:AV→Hl→Prop):Prop :=
 ∃(ρ:List Nat) (bm:Bool) (R:AV→Hl→Prop),C ρ∧Bb P f (passL (E7 0 ρ) (lk hp .nil) xs) (D5 (E7 0 ρ) (lk hp .nil) 0 ρ) R∧ρ.Nodup∧(∀r∈ρ,∃g sz es,lk hp .nil r= .arr g sz es)∧
  (bm=true∨(nobL (E7 0 ρ) xs=true∧∀r∈ρ,∀g sz es,lk hp .nil r= .arr g sz es→nobL (E7 0 ρ) es=true))∧
  ∀x hl,R x hl→FU hl∧(bm=true→x.allT=true∧∀p∈hl,Yh p.2=true)∧(∀p∈hl,ρ[p.1]? =none→p.1<16∧lk hp .nil (nm+p.1)= .nil)∧K (x.ren (rn nm ρ)) (HT (rn nm ρ) hl hp)
def AD (P:Program) (T:Dj) (nt:Nat) (all:List Oper) (ms:List Nat) (base:Nat):List Nat→List (Nat×AV)→Hl→List (Nat×List Nat)→List (Nat×Nat)→(St→Prop)→Prop
 | [],tm,hp,_,_,K=>K ⟨base+16*all.length,tm,hp⟩
 | j::os,tm,hp,fT,fW,K=>match all[j]? with
  | none=>False
  | some o=>match Nv all tm o.guard with
   | .run=>match Du T (Dd tm) (lk hp .nil) (base+16*j) o.op with
    | .bad=>False
    | .out p x us=>Cg nt o.dst∧p∧lk hp .nil (base+16*j)= .nil∧FC ms fW j (BE (Dd tm) (Bx o.op))=true∧
     (match Ft o.op with
      | true=>Ka ms fT fW j (us.map (·.1))=true∧AD P T nt all ms base os (Bz tm o.dst x) (Eo us hp) fT fW K
      | false=>(us.map (·.1)).all (MZ fT (BE (Dd tm) (Bx o.op)))=true∧AD P T nt all ms base os (Bz tm o.dst x) (Eo us hp) (Kg j (BE (Dd tm) (Bx o.op)) fT) (PQ j (us.map (·.1)) fW) K)
    | .call f xs=>Cg nt o.dst∧FC ms fW j (BE (Dd tm) (Bx o.op))=true∧Cn P f xs hp (base+16*j) (fun ρ=>Lt (base+16*j) ms fT fW j ρ xs (ρ.map (lk hp .nil))=true) fun x hp' =>I7 (AD P T nt all ms base os (Bz tm o.dst x) hp' fT fW K)
   | .skip=>Cg nt o.dst∧lk hp .nil (base+16*j)= .nil∧AD P T nt all ms base os (Bz tm o.dst (.v undef)) hp fT fW K
   | .ask b t want=>match b,want with
    | true,true=>match Du T (Dd (Ci tm t (.v (.bool true)))) (lk hp .nil) (base+16*j) o.op with
     | .bad=>False
     | .out p x us=>Cg nt o.dst∧p∧lk hp .nil (base+16*j)= .nil∧FC ms fW j (BE (Dd (Ci tm t (.v (.bool true)))) (Bx o.op))=true∧
      (match Ft o.op with
       | true=>Ka ms fT fW j (us.map (·.1))=true∧AD P T nt all ms base os (Bz (Ci tm t (.v (.bool true))) o.dst x) (Eo us hp) fT fW K
       | false=>(us.map (·.1)).all (MZ fT (BE (Dd (Ci tm t (.v (.bool true)))) (Bx o.op)))=true∧AD P T nt all ms base os (Bz (Ci tm t (.v (.bool true))) o.dst x) (Eo us hp) (Kg j (BE (Dd (Ci tm t (.v (.bool true)))) (Bx o.op)) fT) (PQ j (us.map (·.1)) fW) K)
     | .call f xs=>Cg nt o.dst∧FC ms fW j (BE (Dd (Ci tm t (.v (.bool true)))) (Bx o.op))=true∧Cn P f xs hp (base+16*j) (fun ρ=>Lt (base+16*j) ms fT fW j ρ xs (ρ.map (lk hp .nil))=true) fun x hp' =>I7 (AD P T nt all ms base os (Bz (Ci tm t (.v (.bool true))) o.dst x) hp' fT fW K)
    | false,false=>match Du T (Dd (Ci tm t (.v (.bool false)))) (lk hp .nil) (base+16*j) o.op with
     | .bad=>False
     | .out p x us=>Cg nt o.dst∧p∧lk hp .nil (base+16*j)= .nil∧FC ms fW j (BE (Dd (Ci tm t (.v (.bool false)))) (Bx o.op))=true∧
      (match Ft o.op with
       | true=>Ka ms fT fW j (us.map (·.1))=true∧AD P T nt all ms base os (Bz (Ci tm t (.v (.bool false))) o.dst x) (Eo us hp) fT fW K
       | false=>(us.map (·.1)).all (MZ fT (BE (Dd (Ci tm t (.v (.bool false)))) (Bx o.op)))=true∧AD P T nt all ms base os (Bz (Ci tm t (.v (.bool false))) o.dst x) (Eo us hp) (Kg j (BE (Dd (Ci tm t (.v (.bool false)))) (Bx o.op)) fT) (PQ j (us.map (·.1)) fW) K)
     | .call f xs=>Cg nt o.dst∧FC ms fW j (BE (Dd (Ci tm t (.v (.bool false)))) (Bx o.op))=true∧Cn P f xs hp (base+16*j) (fun ρ=>Lt (base+16*j) ms fT fW j ρ xs (ρ.map (lk hp .nil))=true) fun x hp' =>I7 (AD P T nt all ms base os (Bz (Ci tm t (.v (.bool false))) o.dst x) hp' fT fW K)
    | true,false=>Cg nt o.dst∧lk hp .nil (base+16*j)= .nil∧AD P T nt all ms base os (Bz (Ci tm t (.v (.bool true))) o.dst (.v undef)) hp fT fW K
    | false,true=>Cg nt o.dst∧lk hp .nil (base+16*j)= .nil∧AD P T nt all ms base os (Bz (Ci tm t (.v (.bool false))) o.dst (.v undef)) hp fT fW K
   | .bad=>False
def kL (P:Program) (T:Dj) (nt:Nat) (all:List Oper) (ms:List Nat) (nm j:Nat) (o:Oper) (tm:List (Nat×AV)) (hp:Hl) (fT:List (Nat×List Nat)) (fW:List (Nat×Nat)) (K:List (Nat×AV)→Hl→List (Nat×List Nat)→List (Nat×Nat)→Prop):Prop :=
 ∃tm',lk tm' .any=lk tm .any∧((QG all (lk tm .any) o=some true∧match Du T (Dd tm') (lk hp .nil) nm o.op with
   | .bad=>False
   | .out p x us=>Cg nt o.dst∧p∧lk hp .nil nm= .nil∧FC ms fW j (BE (Dd tm') (Bx o.op))=true∧
     (match Ft o.op with
      | true=>Ka ms fT fW j (us.map (·.1))=true∧K (Bz tm' o.dst x) (Eo us hp) fT fW
      | false=>(us.map (·.1)).all (MZ fT (BE (Dd tm') (Bx o.op)))=true∧K (Bz tm' o.dst x) (Eo us hp) (Kg j (BE (Dd tm') (Bx o.op)) fT) (PQ j (us.map (·.1)) fW))
   | .call f xs=>Cg nt o.dst∧FC ms fW j (BE (Dd tm') (Bx o.op))=true∧Cn P f xs hp nm (fun ρ=>Lt nm ms fT fW j ρ xs (ρ.map (lk hp .nil))=true) fun x hp' =>I7 (K (Bz tm' o.dst x) hp' fT fW))∨
  (QG all (lk tm .any) o=some false∧Cg nt o.dst∧lk hp .nil nm= .nil∧K (Bz tm' o.dst (.v undef)) hp fT fW))
theorem ZC {P:Program} {T:Dj} {nt:Nat} {all:List Oper} {ms:List Nat} {base j:Nat} {os:List Nat} {tm:List (Nat×AV)} {hp:Hl} {fT:List (Nat×List Nat)} {fW:List (Nat×Nat)} {K:St→Prop} (h:AD P T nt all ms base (j::os) tm hp fT fW K) :
  ∃o,all[j]? =some o∧kL P T nt all ms (base+16*j) j o tm hp fT fW fun tm hp fT fW=>AD P T nt all ms base os tm hp fT fW K:=by
 unfold AD at h;cases ho:all[j]? with
 | none=>rw [ho] at h;exact h.elim
 | some o =>
  rw [ho] at h;refine ⟨o,rfl,?_⟩;simp only at h;have hw:QG all (lk tm .any) o=match Nv all tm o.guard with
   | .run=>some true
   | .skip=>some false
   | .ask b _ want=>some (b==want)
   | .bad=>none:=by unfold QG;rw [gY];cases fS all (lk tm .any) o.guard<;>rfl
  cases hg:Nv all tm o.guard with
  | run=>rw [hg] at h hw;exact ⟨tm,rfl, .inl ⟨hw,h⟩⟩
  | skip=>rw [hg] at h hw;exact ⟨tm,rfl, .inr ⟨hw,h⟩⟩
  | bad=>rw [hg] at h;exact h.elim
  | ask b t want =>
   rw [hg] at h hw;have ht:lk tm .any t= .v (.bool b):=by
    unfold Nv at hg;split at hg
    ·cases hg
    ·split at hg
     ·split at hg
      ·split at hg
       ·rename_i hb;injection hg with h1 h2 _;subst h1 h2;exact hb
       ·cases hg
       ·cases hg
      ·cases hg
     ·cases hg
   cases b<;>cases want
   ·exact ⟨_,MA tm ht, .inl ⟨hw,h⟩⟩
   ·exact ⟨_,MA tm ht, .inr ⟨hw,h⟩⟩
   ·exact ⟨_,MA tm ht, .inr ⟨hw,h⟩⟩
   ·exact ⟨_,MA tm ht, .inl ⟨hw,h⟩⟩
structure Pe where
 i:Nat
 o:Oper
 x:AV
 us:List (Nat×Ob)
 ts:List Nat
def Ev (T:Dj) (all:List Oper) (f:TF) (h:HF) (nm:Nat) (e:Pe):Prop :=
 (QG all f e.o=some true∧(∃p,Du T (N1 f) h nm e.o.op= .out p e.x e.us∧p)∧∀X∈Bx e.o.op,∀r∈Dz (N1 f X),r∈e.ts)∨(QG all f e.o=some false∧e.x= .v undef∧e.us=[])
theorem Ev.congr {T:Dj} {all:List Oper} {f f' :TF} {h h' :HF} {nm:Nat} {e:Pe} (k:Ev T all f h nm e) (hf:∀t∈Ga all e.o,f t=f' t) (hh:∀r∈e.ts,h r=h' r):Ev T all f' h' nm e:=by
 rcases k with ⟨k1,⟨p,k2,k3⟩,k4⟩ | ⟨k1,k2⟩
 ·refine .inl ⟨by rw [←KU hf];exact k1,⟨p,?_,k3⟩,fun X hX r hr=>k4 X hX r (by rw [KM hf (XE hX)];exact hr)⟩;rw [←k2];exact (OL (fun X hX=>KM hf (Mf hX)) fun X hX r hr=>hh r (k4 X hX r hr)).symm
 ·exact .inr ⟨by rw [←KU hf];exact k1,k2⟩
structure Pr (T:Dj) (all:List Oper) (base nt:Nat) (f:TF) (h:HF) (e:Pe):Prop where
 at_:all[e.i]? =some e.o
 db:Cg nt e.o.dst
 ev:Ev T all f h (base+16*e.i) e
 dv:∀d,e.o.dst=some d→f d=e.x
 hv:h (base+16*e.i)=Bc e.us (fun _=> .nil) (base+16*e.i)
 usn:∀u∈e.us,u.1=base+16*e.i
 self:∀u∈e.us,u.1 ∉ e.ts
 nf:I2 all e.o e.o=false
open Classical in
noncomputable def mT (F:List Pe) (f:TF):TF:=fun t=>if ∃e∈F,e.o.dst=some t then .any else f t
open Classical in
noncomputable def mH (F:List Pe) (h:HF):HF:=fun r=>if ∃e∈F,∃u∈e.us,u.1=r then .nil else h r
theorem Lc {F:List Pe} {f:TF} {t:Nat} (h:∃e∈F,e.o.dst=some t):mT F f t= .any:=by unfold mT;rw [if_pos h]
theorem Eb {F:List Pe} {f:TF} {t:Nat} (h:¬∃e∈F,e.o.dst=some t):mT F f t=f t:=by unfold mT;rw [if_neg h]
theorem Gi {F:List Pe} {h:HF} {r:Nat} (k:∃e∈F,∃u∈e.us,u.1=r):mH F h r= .nil:=by unfold mH;rw [if_pos k]
theorem DF {F:List Pe} {h:HF} {r:Nat} (k:¬∃e∈F,∃u∈e.us,u.1=r):mH F h r=h r:=by unfold mH;rw [if_neg k]
structure Jb (c0:Cx) (h0:HF) (nt:Nat) (T:Dj) (all:List Oper) (ms:List Nat) (base:Nat) (L:Nat→Bool) (pre:List Nat) (F:List Pe) (fT:List (Nat×List Nat)) (fW:List (Nat×Nat)) (f:TF) (h:HF) (c:Cx) (a:Act):Prop where
 lst:∀i,L i=true↔(i∈pre∧∀e∈F,e.i≠i)
 cl:∀j,L j=true→∀i,Lv ms i j=true→L i=true
 nd:∀e∈F,∀e' ∈F,e.i=e'.i→e=e'
 inp:∀e∈F,e.i∈pre
 pr:∀e∈F,Pr T all base nt f h e
 hT:∀e∈F,e.ts=[]∨(e.i,e.ts)∈fT
 hW:∀e∈F,∀u∈e.us,(e.i,u.1)∈fW
 pt:∀e∈F,∀e' ∈F,e.i≠e'.i→(∀d,e.o.dst=some d→e'.o.dst≠some d∧(d∈Ga all e'.o→Lv ms e.i e'.i=true))∧∀u∈e.us,u.1∈e'.ts→Lv ms e.i e'.i=true
 rel:Hq c0 h0 nt (mT F f) (mH F h) c a
section
variable {P:Program} {T:Dj} {c0 c:Cx} {h0 h:HF} {nt base:Nat} {f:TF} {a:Act} {all:List Oper} {ms:List Nat} {L:Nat→Bool} {pre:List Nat} {F:List Pe} {fT:List (Nat×List Nat)} {fW:List (Nat×Nat)}
theorem TW {us:List (Nat×Ob)} {h h' :HF} {r:Nat} (k:h r=h' r):Bc us h r=Bc us h' r:=by
 unfold Bc;induction us generalizing h h' with
 | nil=>exact k
 | cons u us ih =>
  simp only [List.foldl_cons];refine ih ?_;by_cases hr:r=u.1
  ·subst hr;simp
  ·simp [hr,k]
theorem GH {us:List (Nat×Ob)} {h:HF} {r:Nat} (k:∀u∈us,u.1≠r):Bc us h r=h r:=by
 unfold Bc;induction us generalizing h with
 | nil=>rfl
 | cons u us ih =>
  simp only [List.foldl_cons];rw [ih fun u hu=>k u (List.mem_cons_of_mem _ hu)];have:¬r=u.1:=fun e=>k u List.mem_cons_self e.symm
  simp [this]
theorem Jb.pend (hT:CQ P T) (I:Jb c0 h0 nt T all ms base L pre F fT fW f h c a) {e:Pe} (he:e∈F) (hb:∀i,Lv ms i e.i=true→L i=true) {Q:Exit→Act→World→Prop} {N:Act→World→Prop}
  (hK:∀c' a',Jb c0 h0 nt T all ms base (fun i=>L i || i==e.i) pre (F.filter fun e' =>e'.i != e.i) fT fW f h c' a' →N a' c'.w):wpOp P all.toArray Q e.i N a c.w:=by
 have p:=I.pr e he;have hnm:=fun e' (he' :e' ∈F) (hne:e'.i≠e.i)=>show ¬(Lv ms e'.i e.i=true) from fun hbit=>((I.lst _).1 (hb _ hbit)).2 e' he' rfl
 have memF:∀e',e' ∈F.filter (fun e' =>e'.i != e.i)↔e' ∈F∧e'.i≠e.i:=fun e' =>by rw [List.mem_filter];simp
 have rd:∀t∈Ga all e.o,f t=mT F f t:=fun t ht=>by
  refine (Eb ?_).symm;rintro ⟨e',he',hd⟩;by_cases hi:e'.i=e.i
  ·have:=I.nd e' he' e he hi;subst this;have:=p.nf;unfold I2 at this;rw [hd] at this;simp at this;exact this ht
  ·exact hnm e' he' hi (((I.pt e' he' e he hi).1 t hd).2 ht)
 have th:∀r∈e.ts,h r=mH F h r:=fun r hr=>by
  refine (DF ?_).symm;rintro ⟨e',he',u,hu,rfl⟩;by_cases hi:e'.i=e.i
  ·have:=I.nd e' he' e he hi;subst this;exact p.self u hu hr
  ·exact hnm e' he' hi ((I.pt e' he' e he hi).2 u hu hr)
 have nmne:∀e' ∈F,e'.i≠e.i→∀u∈e'.us,u.1≠base+16*e.i:=fun e' he' hi u hu=>by
  rw [(I.pr e' he').usn u hu];omega
 have fin:∀c' y,Hq c0 h0 nt (E1 (mT F f) e.o.dst e.x) (Bc e.us (mH F h)) c' (a.put e.o.dst y)→N (a.put e.o.dst y) c'.w:=fun c' y r=>by
  refine hK c' _ ⟨fun i=> ?_,fun j hj i hi=> ?_,fun e1 h1 e2 h2=>I.nd e1 ((memF _).1 h1).1 e2 ((memF _).1 h2).1,fun e' h' =>I.inp e' ((memF _).1 h').1,fun e' h' =>I.pr e' ((memF _).1 h').1,fun e' h' =>I.hT e' ((memF _).1 h').1,fun e' h' =>I.hW e' ((memF _).1 h').1,fun e1 h1 e2 h2=>I.pt e1 ((memF _).1 h1).1 e2 ((memF _).1 h2).1,?_⟩
  ·rw [Bool.or_eq_true,I.lst,beq_iff_eq];constructor
   ·rintro (⟨h1,h2⟩ | rfl)
    ·exact ⟨h1,fun e' h' =>h2 e' ((memF _).1 h').1⟩
    ·exact ⟨I.inp e he,fun e' h' =>((memF _).1 h').2⟩
   ·rintro ⟨h1,h2⟩;by_cases hi:i=e.i
    ·exact .inr hi
    ·refine .inl ⟨h1,fun e' he' hi' =>h2 e' ((memF _).2 ⟨he',fun h3=>hi (by rw [←hi',h3])⟩) hi'⟩
  ·rw [Bool.or_eq_true] at hj ⊢;rcases hj with hj | hj
   ·exact .inl (I.cl j hj i hi)
   ·rw [beq_iff_eq] at hj;subst hj;exact .inl (hb i hi)
  ·have e1:E1 (mT F f) e.o.dst e.x=mT (F.filter fun e' =>e'.i != e.i) f:=by
    funext t;cases hd:e.o.dst with
    | none =>
     simp only [E1];by_cases h1:∃e' ∈F,e'.o.dst=some t
     ·obtain ⟨e',he',hd'⟩:=h1;rw [Lc ⟨e',he',hd'⟩,Lc];refine ⟨e',(memF _).2 ⟨he',fun hi=> ?_⟩,hd'⟩;have:=I.nd e' he' e he hi;subst this;rw [hd] at hd';cases hd'
     ·rw [Eb h1,Eb];rintro ⟨e',h',hd'⟩;exact h1 ⟨e',((memF _).1 h').1,hd'⟩
    | some d =>
     simp only [E1];split
     ·rename_i hdt;subst hdt;rw [Eb]
      ·exact (p.dv d hd).symm
      ·rintro ⟨e',h',hd'⟩;obtain ⟨he',hi⟩:=(memF _).1 h';exact ((I.pt e' he' e he hi).1 d hd').1 hd
     ·rename_i hdt;by_cases h1:∃e' ∈F,e'.o.dst=some t
      ·obtain ⟨e',he',hd'⟩:=h1;rw [Lc ⟨e',he',hd'⟩,Lc];refine ⟨e',(memF _).2 ⟨he',fun hi=> ?_⟩,hd'⟩;have:=I.nd e' he' e he hi;subst this;rw [hd] at hd';injection hd' with hd';exact hdt hd'
      ·rw [Eb h1,Eb];rintro ⟨e',h',hd'⟩;exact h1 ⟨e',((memF _).1 h').1,hd'⟩
   have e2:Bc e.us (mH F h)=mH (F.filter fun e' =>e'.i != e.i) h:=by
    funext r;by_cases hr:r=base+16*e.i
    ·have hout:¬∃e' ∈F.filter (fun e' =>e'.i != e.i),∃u∈e'.us,u.1=r:=by
      rintro ⟨e',h',u,hu,hur⟩;obtain ⟨he',hi⟩:=(memF _).1 h';exact nmne e' he' hi u hu (hur.trans hr)
     rw [DF hout];subst hr;by_cases hus:e.us=[]
     ·rw [hus];show mH F h (base+16*e.i)=_;refine DF ?_;rintro ⟨e',he',u,hu,hur⟩;by_cases hi:e'.i=e.i
      ·have:=I.nd e' he' e he hi;subst this;rw [hus] at hu;cases hu
      ·exact nmne e' he' hi u hu hur
     ·rw [p.hv];refine TW (Gi ?_);cases hu:e.us with
      | nil=>exact absurd hu hus
      | cons u us=>exact ⟨e,he,u,by rw [hu];exact List.mem_cons_self,p.usn u (by rw [hu];exact List.mem_cons_self)⟩
    ·rw [GH fun u hu hur=>hr (by rw [←hur,p.usn u hu])];by_cases h1:∃e' ∈F,∃u∈e'.us,u.1=r
     ·obtain ⟨e',he',u,hu,hur⟩:=h1;rw [Gi ⟨e',he',u,hu,hur⟩,Gi];refine ⟨e',(memF _).2 ⟨he',fun hi=> ?_⟩,u,hu,hur⟩;have:=I.nd e' he' e he hi;subst this;exact hr (by rw [←hur,p.usn u hu])
     ·rw [DF h1,DF];rintro ⟨e',h',k⟩;exact h1 ⟨e',((memF _).1 h').1,k⟩
   rw [←e1,←e2];exact r
 unfold wpOp;have hat:all.toArray[e.i]? =some e.o:=by rw [List.getElem?_toArray];exact p.at_
 rw [hat];simp only;rcases (p.ev.congr rd th) with ⟨k1,⟨q,k2,k3⟩,k4⟩ | ⟨k1,k2,k3⟩
 ·rw [if_pos (I.rel.wanted k1)];refine .inl (Rh hT I.rel k2 k3 ?_ p.db fun y c' r=>fin c' y r);by_cases hus:e.us=[]
  ·rw [DF]
   ·rw [p.hv,hus];rfl
   ·rintro ⟨e',he',u,hu,hur⟩;by_cases hi:e'.i=e.i
    ·have:=I.nd e' he' e he hi;subst this;rw [hus] at hu;cases hu
    ·exact nmne e' he' hi u hu hur
  ·refine Gi ?_;cases hu:e.us with
   | nil=>exact absurd hu hus
   | cons u us=>exact ⟨e,he,u,by rw [hu];exact List.mem_cons_self,p.usn u (by rw [hu];exact List.mem_cons_self)⟩
 ·rw [if_neg (by rw [I.rel.wanted k1];exact fun h=>by cases h)];refine fin c undef ?_;rw [k2,k3];exact I.rel.put (.refl _ _) I.rel.hp (.v _) p.db
theorem Jb.look (I:Jb c0 h0 nt T all ms base L pre F fT fW f h c a) {k j:Nat} {o:Oper} {rest:List Nat} {x:AV} {us:List (Nat×Ob)} {ts:List Nat} (hj:∀i,Lv ms i j=true→L i=true) (hjr:j∈k::rest) (hko:all[k]? =some o)
  (h1:pre.contains k=false) (h2:I2 all o o=false) (h3:pre.all (Kl all ms k o rest)=true) (he:Ft o.op=false) (hd:Cg nt o.dst)
  (hev:(QG all f o=some true∧(∃p,Du T (N1 f) h (base+16*k) o.op= .out p x us∧p)∧(∀X∈Bx o.op,∀r∈Dz (N1 f X),r∈ts)∧h (base+16*k)= .nil∧FC ms fW k ts=true∧(us.map (·.1)).all (MZ fT ts)=true)∨(QG all f o=some false∧x= .v undef∧us=[]∧ts=[]∧h (base+16*k)= .nil))
  (fT' :List (Nat×List Nat)) (fW' :List (Nat×Nat)) (hfT:∀p∈fT,p∈fT') (hfW:∀p∈fW,p∈fW') (hkT:ts=[]∨(k,ts)∈fT') (hkW:∀u∈us,(k,u.1)∈fW') :
  Jb c0 h0 nt T all ms base L (k::pre) (⟨k,o,x,us,ts⟩::F) fT' fW' (E1 f o.dst x) (Bc us h) c a:=by
 have noF:∀e' ∈F,¬(Lv ms e'.i j=true):=fun e' he' hbit=>((I.lst _).1 (hj _ hbit)).2 e' he' rfl
 have kpre:k ∉ pre:=by simpa using h1
 have nek:∀e' ∈F,e'.i≠k:=fun e' he' hi=>kpre (hi ▸ I.inp e' he')
 have one:∀e' ∈F,(I2 all e'.o o=true→Lv ms e'.i k=true)∧WZ all e'.o o=false:=fun e' he' =>by
  have:=List.all_eq_true.1 h3 e'.i (I.inp e' he');unfold Kl at this;rw [(I.pr e' he').at_] at this;simp only [Bool.and_eq_true,Bool.or_eq_true,Bool.not_eq_true'] at this;refine ⟨fun hf=>this.1.2.resolve_left (by rw [hf];exact fun h=>by cases h),?_⟩;rcases this.2 with h4 | h4
  ·exact h4
  ·exact absurd (List.all_eq_true.1 h4 j hjr) (noF e' he')
 have cf:∀e' ∈F,∀d,o.dst=some d→d ∉ Ga all e'.o∧e'.o.dst≠some d:=fun e' he' d hd=>by
  have:=(one e' he').2;unfold WZ at this;rw [hd] at this;simp only [Bool.or_eq_false_iff,List.contains_eq_mem,decide_eq_false_iff_not,beq_eq_false_iff_ne] at this;exact this
 have nfd:∀d,o.dst=some d→d ∉ Ga all o:=fun d hd=>by
  unfold I2 at h2;rw [hd] at h2;simpa using h2
 have usn:∀u∈us,u.1=base+16*k:=by
  rcases hev with ⟨_,⟨p,k2,_⟩,_⟩ | ⟨_,_,k3,_⟩
  ·have:=Pv (T:=T) (g:=N1 f) (h:=h) (nm:=base+16*k) he;rw [k2] at this;exact this
  ·rw [k3];exact fun u hu=>by cases hu
 have fresh:h (base+16*k)= .nil:=by
  rcases hev with ⟨_,_,_,k4,_⟩ | ⟨_,_,_,_,k4⟩<;>exact k4
 have tsn:∀u∈us,u.1 ∉ ts∧∀p∈fT,u.1 ∉ p.2:=fun u hu=>by
  rcases hev with ⟨_,_,_,_,_,k6⟩ | ⟨_,_,k3,_⟩
  ·have:=List.all_eq_true.1 k6 u.1 (List.mem_map_of_mem hu);unfold MZ at this;simp only [Bool.and_eq_true,Bool.not_eq_true',List.all_eq_true,List.contains_eq_mem,decide_eq_false_iff_not] at this;exact ⟨this.2,fun p hp=>this.1 p hp⟩
  ·rw [k3] at hu;cases hu
 have tsF:∀e' ∈F,∀u∈us,u.1 ∉ e'.ts:=fun e' he' u hu=>by
  rcases I.hT e' he' with h4 | h4
  ·rw [h4];exact List.not_mem_nil
  ·exact (tsn u hu).2 _ h4
 have put_eq:∀t,o.dst≠some t→f t=E1 f o.dst x t:=fun t ht=>by
  cases hd:o.dst with
  | none=>rfl
  | some d=>simp only [E1];rw [if_neg fun h=>ht (by rw [hd,h])]
 have nmF:∀e' ∈F,∀u∈us,u.1≠base+16*e'.i:=fun e' he' u hu=>by
  have:=nek e' he';rw [usn u hu];omega
 refine ⟨fun i=> ?_,I.cl,?_,?_,?_,?_,?_,?_,?_⟩
 ·rw [I.lst];constructor
  ·rintro ⟨h4,h5⟩;refine ⟨List.mem_cons_of_mem _ h4,fun e' he' => ?_⟩;rcases List.mem_cons.1 he' with rfl | he'
   ·exact fun hi=>kpre (by have:k=i:=hi;rw [this];exact h4)
   ·exact h5 e' he'
  ·rintro ⟨h4,h5⟩;rcases List.mem_cons.1 h4 with rfl | h4
   ·exact absurd rfl (h5 _ List.mem_cons_self)
   ·exact ⟨h4,fun e' he' =>h5 e' (List.mem_cons_of_mem _ he')⟩
 ·intro e1 m1 e2 m2 hi;rcases List.mem_cons.1 m1 with rfl | m1<;>rcases List.mem_cons.1 m2 with rfl | m2
  ·rfl
  ·exact absurd hi.symm (nek e2 m2)
  ·exact absurd hi (nek e1 m1)
  ·exact I.nd e1 m1 e2 m2 hi
 ·intro e' he';rcases List.mem_cons.1 he' with rfl | he'
  ·exact List.mem_cons_self
  ·exact List.mem_cons_of_mem _ (I.inp e' he')
 ·intro e' he';rcases List.mem_cons.1 he' with rfl | he'
  ·refine ⟨hko,hd,?_,?_,?_,usn,fun u hu=>(tsn u hu).1,h2⟩
   ·have ev0:Ev T all f h (base+16*k) ⟨k,o,x,us,ts⟩:=by
     rcases hev with ⟨k1,k2,k3,_⟩ | ⟨k1,k2,k3,_⟩
     ·exact .inl ⟨k1,k2,k3⟩
     ·exact .inr ⟨k1,k2,k3⟩
    refine ev0.congr (fun t ht=>put_eq t fun hdt=>nfd t hdt ht) fun r hr=>(GH fun u hu hur=>(tsn u hu).1 (hur ▸ hr)).symm
   ·intro d hd';simp only [] at hd';rw [hd'];simp [E1]
   ·exact TW fresh
  ·have p:=I.pr e' he';refine ⟨p.at_,p.db,p.ev.congr (fun t ht=>put_eq t fun hdt=>(cf e' he' t hdt).1 ht) fun r hr=>(GH fun u hu hur=>tsF e' he' u hu (hur ▸ hr)).symm,fun d hd' => ?_,?_,p.usn,p.self,p.nf⟩
   ·rw [←put_eq d fun hdt=>(cf e' he' d hdt).2 hd'];exact p.dv d hd'
   ·rw [GH fun u hu=>nmF e' he' u hu];exact p.hv
 ·intro e' he';rcases List.mem_cons.1 he' with rfl | he'
  ·exact hkT
  ·exact (I.hT e' he').imp id fun h4=>hfT _ h4
 ·intro e' he';rcases List.mem_cons.1 he' with rfl | he'
  ·exact hkW
  ·exact fun u hu=>hfW _ (I.hW e' he' u hu)
 ·intro e1 m1 e2 m2 hi;rcases List.mem_cons.1 m1 with rfl | m1<;>rcases List.mem_cons.1 m2 with rfl | m2
  ·exact absurd rfl hi
  ·refine ⟨fun d hd' =>⟨(cf e2 m2 d hd').2,fun h4=>absurd h4 (cf e2 m2 d hd').1⟩,fun u hu h4=>absurd h4 (tsF e2 m2 u hu)⟩
  ·refine ⟨fun d hd' =>⟨fun h4=>(cf e1 m1 d h4).2 hd',fun h4=>(one e1 m1).1 ?_⟩,fun u hu h4=> ?_⟩
   ·unfold I2;rw [hd'];simpa using h4
   ·rcases hev with ⟨_,_,_,_,k5,_⟩ | ⟨_,_,_,k4,_⟩
    ·have:=List.all_eq_true.1 k5 _ (I.hW e1 m1 u hu);simp only [Bool.or_eq_true,Bool.not_eq_true',List.contains_eq_mem,decide_eq_false_iff_not] at this;exact this.resolve_left fun h5=>h5 h4
    ·simp only [] at h4;rw [k4] at h4;cases h4
  ·exact I.pt e1 m1 e2 m2 hi
 ·have e2:mH (⟨k,o,x,us,ts⟩::F) (Bc us h)=mH F h:=by
   funext r;by_cases h4:∃e' ∈F,∃u∈e'.us,u.1=r
   ·rw [Gi h4,Gi];obtain ⟨e',he',h5⟩:=h4;exact ⟨e',List.mem_cons_of_mem _ he',h5⟩
   ·rw [DF h4];by_cases h5:∃u∈us,u.1=r
    ·rw [Gi ⟨_,List.mem_cons_self,h5⟩];obtain ⟨u,hu,rfl⟩:=h5;rw [usn u hu];exact fresh.symm
    ·rw [DF,GH fun u hu hur=>h5 ⟨u,hu,hur⟩];rintro ⟨e',he',h6⟩;rcases List.mem_cons.1 he' with rfl | he'
     ·exact h5 h6
     ·exact h4 ⟨e',he',h6⟩
  rw [e2];refine I.rel.less fun t=> ?_
  by_cases h4:∃e' ∈(⟨k,o,x,us,ts⟩:Pe)::F,e'.o.dst=some t
  ·exact .inl (Lc h4)
  ·refine .inr ?_;rw [Eb h4,Eb fun ⟨e',he',h5⟩=>h4 ⟨e',List.mem_cons_of_mem _ he',h5⟩];exact (put_eq t fun h5=>h4 ⟨_,List.mem_cons_self,h5⟩).symm
theorem Z0 {q:Nat→Nat} {hl:Hl} {h h' :HF} {r:Nat} (k:h r=h' r):Kd q hl h r=Kd q hl h' r:=by
 induction hl with
 | nil=>exact k
 | cons p l ih =>
  simp only [Kd];split
  ·rfl
  ·exact ih
theorem MO {q:Nat→Nat} {hl:Hl} {h:HF} {r:Nat} (k:∀p∈hl,q p.1≠r):Kd q hl h r=h r:=by
 induction hl with
 | nil=>rfl
 | cons p l ih=>simp only [Kd];rw [if_neg (k p List.mem_cons_self)];exact ih fun p hp=>k p (List.mem_cons_of_mem _ hp)
theorem Jb.next (I:Jb c0 h0 nt T all ms base L pre F fT fW f h c a) {j:Nat} {f' :TF} {h' :HF} {c' :Cx} {a' :Act} (hj:∀i,Lv ms i j=true→L i=true) (hjp:j ∉ pre)
  (hf:∀e∈F,(∀t∈Ga all e.o,f t=f' t)∧∀d,e.o.dst=some d→f d=f' d) (hh:∀e∈F,(∀r∈e.ts,h r=h' r)∧h (base+16*e.i)=h' (base+16*e.i)) (hr:Hq c0 h0 nt (mT F f') (mH F h') c' a') :
  Jb c0 h0 nt T all ms base (fun i=>L i || i==j) (j::pre) F fT fW f' h' c' a' :=by
 refine ⟨fun i=> ?_,fun i hi k hk=> ?_,I.nd,fun e he=>List.mem_cons_of_mem _ (I.inp e he),fun e he=> ?_,I.hT,I.hW,I.pt,hr⟩
 ·rw [Bool.or_eq_true,I.lst,beq_iff_eq,List.mem_cons];constructor
  ·rintro (⟨h1,h2⟩ | rfl)
   ·exact ⟨.inr h1,h2⟩
   ·exact ⟨.inl rfl,fun e he hi=>hjp (hi ▸ I.inp e he)⟩
  ·rintro ⟨rfl | h1,h2⟩
   ·exact .inr rfl
   ·exact .inl ⟨h1,h2⟩
 ·rw [Bool.or_eq_true] at hi ⊢;rcases hi with hi | hi
  ·exact .inl (I.cl i hi k hk)
  ·rw [beq_iff_eq] at hi;subst hi;exact .inl (hj k hk)
 ·have p:=I.pr e he;exact ⟨p.at_,p.db,p.ev.congr (hf e he).1 (hh e he).1,fun d hd=>by rw [←(hf e he).2 d hd];exact p.dv d hd,by rw [←(hh e he).2];exact p.hv,p.usn,p.self,p.nf⟩
theorem Jb.eff (hT:CQ P T) (I:Jb c0 h0 nt T all ms base L pre F fT fW f h c a) (hn:c0.n0=c0.w.heap.size) {j:Nat} {o:Oper} {rest:List Nat} (hj:∀i,Lv ms i j=true→L i=true) (hko:all[j]? =some o)
  (h1:pre.contains j=false) (h3:pre.all (Kl all ms j o rest)=true) {Q:Exit→Act→World→Prop} {N:Act→World→Prop}
  (hev:(∃p x us,QG all f o=some true∧Du T (N1 f) h (base+16*j) o.op= .out p x us∧Cg nt o.dst∧p∧h (base+16*j)= .nil∧FC ms fW j (BE (N1 f) (Bx o.op))=true∧Ka ms fT fW j (us.map (·.1))=true∧
    ∀c' a',Jb c0 h0 nt T all ms base (fun i=>L i || i==j) (j::pre) F fT fW (E1 f o.dst x) (Bc us h) c' a' →N a' c'.w)∨
   (∃fn xs,QG all f o=some true∧Du T (N1 f) h (base+16*j) o.op= .call fn xs∧Cg nt o.dst∧FC ms fW j (BE (N1 f) (Bx o.op))=true∧∃hp,h=lk hp .nil∧Cn P fn xs hp (base+16*j) (fun ρ=>Lt (base+16*j) ms fT fW j ρ xs (ρ.map (lk hp .nil))=true) fun x hp' =>
    ∀c' a',Jb c0 h0 nt T all ms base (fun i=>L i || i==j) (j::pre) F fT fW (E1 f o.dst x) (lk hp' .nil) c' a' →N a' c'.w)∨
   (QG all f o=some false∧Cg nt o.dst∧∀c' a',Jb c0 h0 nt T all ms base (fun i=>L i || i==j) (j::pre) F fT fW (E1 f o.dst (.v undef)) h c' a' →N a' c'.w)):wpOp P all.toArray Q j N a c.w:=by
 have noF:∀e' ∈F,¬(Lv ms e'.i j=true):=fun e' he' hbit=>((I.lst _).1 (hj _ hbit)).2 e' he' rfl
 have kpre:j ∉ pre:=by simpa using h1
 have nek:∀e' ∈F,e'.i≠j:=fun e' he' hi=>kpre (hi ▸ I.inp e' he')
 have one:∀e' ∈F,I2 all e'.o o=false∧WZ all e'.o o=false:=fun e' he' =>by
  have:=List.all_eq_true.1 h3 e'.i (I.inp e' he');unfold Kl at this;rw [(I.pr e' he').at_] at this;simp only [Bool.and_eq_true,Bool.or_eq_true,Bool.not_eq_true'] at this;exact ⟨this.1.2.resolve_right (noF e' he'),this.2.resolve_right fun h4=>noF e' he' (List.all_eq_true.1 h4 j List.mem_cons_self)⟩
 have cf:∀e' ∈F,∀d,o.dst=some d→d ∉ Ga all e'.o∧e'.o.dst≠some d:=fun e' he' d hd=>by
  have:=(one e' he').2;unfold WZ at this;rw [hd] at this;simp only [Bool.or_eq_false_iff,List.contains_eq_mem,decide_eq_false_iff_not,beq_eq_false_iff_ne] at this;exact this
 have rd:∀t∈Ga all o,f t=mT F f t:=fun t ht=>by
  refine (Eb ?_).symm;rintro ⟨e',he',hd⟩;have:=(one e' he').1;unfold I2 at this;rw [hd] at this;simp only [List.contains_eq_mem,decide_eq_false_iff_not] at this;exact this ht
 have put_eq:∀x t,o.dst≠some t→f t=E1 f o.dst x t:=fun x t ht=>by
  cases hd:o.dst with
  | none=>rfl
  | some d=>simp only [E1];rw [if_neg fun h=>ht (by rw [hd,h])]
 have hf:∀x,∀e∈F,(∀t∈Ga all e.o,f t=E1 f o.dst x t)∧∀d,e.o.dst=some d→f d=E1 f o.dst x d:=fun x e he =>
  ⟨fun t ht=>put_eq x t fun hd=>(cf e he t hd).1 ht,fun d hd' =>put_eq x d fun hd=>(cf e he d hd).2 hd'⟩
 have mTput:∀x,E1 (mT F f) o.dst x=mT F (E1 f o.dst x):=fun x=>by
  funext t;by_cases h4:∃e' ∈F,e'.o.dst=some t
  ·rw [Lc h4];obtain ⟨e',he',hd⟩:=h4;have:o.dst≠some t:=fun h5=>(cf e' he' t h5).2 hd
   cases hdo:o.dst with
   | none=>simp only [E1];exact Lc ⟨e',he',hd⟩
   | some d=>simp only [E1];rw [if_neg fun h=>this (by rw [hdo,h])];exact Lc ⟨e',he',hd⟩
  ·rw [Eb h4];cases hdo:o.dst with
   | none=>simp only [E1];exact Eb h4
   | some d=>simp only [E1];rw [Eb h4]
 have wF:QG all f o=QG all (mT F f) o:=KU rd;have tch:FC ms fW j (BE (N1 f) (Bx o.op))=true→∀X∈Bx o.op,∀r∈Dz (N1 f X),h r=mH F h r:=fun hc X hX r hr=>by
  refine (DF ?_).symm;rintro ⟨e',he',u,hu,rfl⟩;have:=List.all_eq_true.1 hc _ (I.hW e' he' u hu);simp only [Bool.or_eq_true,Bool.not_eq_true',List.contains_eq_mem,decide_eq_false_iff_not] at this;exact this.elim (fun h4=>h4 (NQ hX hr)) (noF e' he')
 have opeq:FC ms fW j (BE (N1 f) (Bx o.op))=true→Du T (N1 f) h (base+16*j) o.op=Du T (N1 (mT F f)) (mH F h) (base+16*j) o.op:=fun hc =>
  OL (fun X hX=>KM rd (Mf hX)) (tch hc)
 have nmj:∀e' ∈F,base+16*e'.i≠base+16*j:=fun e' he' =>by have:=nek e' he';omega
 unfold wpOp;have hat:all.toArray[j]? =some o:=by rw [List.getElem?_toArray];exact hko
 rw [hat];simp only;rcases hev with ⟨p,x,us,k1,k2,k3,k4,k5,k6,k7,hK⟩ | ⟨fn,xs,k1,k2,k3,k6,hp,rfl,ρ,bm,R,k7,hC,c1,c2,c3,c4⟩ | ⟨k1,k3,hK⟩
 ·have usF:∀e' ∈F,∀u∈us,(∀u' ∈e'.us,u.1≠u'.1)∧u.1 ∉ e'.ts∧u.1≠base+16*e'.i:=fun e' he' u hu=>by
   unfold Ka at k7;simp only [Bool.and_eq_true,List.all_eq_true,Bool.or_eq_true,Bool.not_eq_true',List.contains_eq_mem,decide_eq_false_iff_not] at k7;have a1:∀u' ∈e'.us,u.1≠u'.1:=fun u' hu' heq=>by
    have:=(k7.2 _ (I.hW e' he' u' hu')).resolve_right (noF e' he');exact this (heq ▸ List.mem_map_of_mem hu)
   refine ⟨a1,?_,fun heq=> ?_⟩
   ·rcases I.hT e' he' with h4 | h4
    ·rw [h4];exact List.not_mem_nil
    ·have:=(k7.1 _ h4).resolve_right (noF e' he');unfold hit at this;intro h5;have h6:=List.any_eq_false.1 this u.1 (List.mem_map_of_mem hu);simp at h6;exact h6 h5
   ·rcases eN k2 u hu with h4 | h4
    ·exact nmj e' he' (heq.symm.trans h4)
    ·have:=(I.pr e' he').hv;rw [←heq] at this;rw [this] at h4;cases hus:e'.us with
     | nil=>rw [hus] at h4;exact h4 rfl
     | cons u' us' =>
      have h5:u' ∈e'.us:=by rw [hus];exact List.mem_cons_self
      exact a1 u' h5 (heq.trans ((I.pr e' he').usn u' h5).symm)
  have mHu:Bc us (mH F h)=mH F (Bc us h):=by
   funext r;by_cases h4:∃e∈F,∃u∈e.us,u.1=r
   ·rw [Gi h4];obtain ⟨e,he,u,hu,rfl⟩:=h4;rw [GH fun u' hu' heq=>(usF e he u' hu').1 u hu heq];exact Gi ⟨e,he,u,hu,rfl⟩
   ·rw [DF h4];exact TW (DF h4)
  rw [if_pos (I.rel.wanted (wF ▸ k1))];refine .inl (Rh hT I.rel (by rw [←opeq k6];exact k2) k4 ?_ k3 fun y c' r=> ?_)
  ·by_cases h4:∃e∈F,∃u∈e.us,u.1=base+16*j
   ·exact Gi h4
   ·rw [DF h4];exact k5
  ·refine hK c' _ (I.next hj kpre (hf x) (fun e he=>⟨fun r hr=>(GH fun u hu hur=>(usF e he u hu).2.1 (hur ▸ hr)).symm,(GH fun u hu hur=>(usF e he u hu).2.2 hur).symm⟩) ?_);rw [←mTput,←mHu];exact r
 ·generalize hh:lk hp .nil=h at *;have cF:∀e' ∈F,(∀u∈e'.us,u.1 ∉ ρ∧awayL u.1 xs=true∧∀s∈ρ,UQ u.1 (h s)=true)∧(∀r∈ρ,r ∉ e'.ts)∧∀r∈e'.ts,r<base+16*j∨base+16*j+16≤r:=fun e' he' =>by
   unfold Lt at k7;simp only [Bool.and_eq_true,List.all_eq_true,Bool.or_eq_true,Bool.not_eq_true',List.contains_eq_mem,decide_eq_false_iff_not] at k7;refine ⟨fun u hu=> ?_,fun r hr=> ?_,fun r hr=> ?_⟩
   ·have:=(k7.2 _ (I.hW e' he' u hu)).resolve_left (noF e' he');exact ⟨this.1,this.2.1,fun s hs=>this.2.2 _ (List.mem_map_of_mem hs)⟩
   ·rcases I.hT e' he' with h4 | h4
    ·rw [h4];exact List.not_mem_nil
    ·have:=((k7.1 _ h4).resolve_right (noF e' he')).1;unfold hit at this;intro h5;have h6:=List.any_eq_false.1 this r hr;simp at h6;exact h6 h5
   ·rcases I.hT e' he' with h4 | h4
    ·rw [h4] at hr;cases hr
    ·have:=((k7.1 _ h4).resolve_right (noF e' he')).2 r hr;simpa [Nat.blt_eq] using this
  have hρ:∀s∈ρ,mH F h s=h s:=fun s hs=>DF fun ⟨e',he',u,hu,hus⟩=>((cF e' he').1 u hu).1 (hus ▸ hs)
  have e1:passL (E7 0 ρ) (mH F h) xs=passL (E7 0 ρ) h xs:=passL_congr xs fun r=>by
   by_cases h4:∃e∈F,∃u∈e.us,u.1=r
   ·obtain ⟨e,he,u,hu,rfl⟩:=h4;exact .inl ((cF e he).1 u hu).2.1
   ·exact .inr (DF h4)
  have e2:D5 (E7 0 ρ) (mH F h) 0 ρ=D5 (E7 0 ρ) h 0 ρ:=LR 0 ρ hρ fun r=>by
   by_cases h4:∃e∈F,∃u∈e.us,u.1=r
   ·obtain ⟨e,he,u,hu,rfl⟩:=h4;exact .inl fun s hs=>by rw [hρ s hs];exact ((cF e he).1 u hu).2.2 s hs
   ·exact .inr (DF h4)
  obtain ⟨vals,v1,v2,hrun⟩:=RE (o:=o) I.rel.ev hC.1 (by rw [←opeq k6];exact k2);rw [if_pos (I.rel.wanted (wF ▸ k1))];refine .inl ?_;unfold Oper.wp;rw [hrun];simp only [Oper.upon];have hsz:c.n0≤c.w.heap.size:=I.rel.kp.n0_le hn;refine (QR (base:=base+16*j) (by rw [e1,e2];exact hC) I.rel.hp ⟨v1,v2⟩ c1 (fun r hr=>by rw [hρ r hr];exact c2 r hr) hsz (bm:=bm) ?_ fun x hl hR=>⟨(c4 x hl hR).1,(c4 x hl hR).2.1,fun p hp h4=> ?_⟩).mono ?_
  ·refine c3.imp id fun ⟨h4,h5⟩=>⟨h4,fun r hr g sz es h6=>h5 r hr g sz es (by rw [←hρ r hr];exact h6)⟩
  ·by_cases h5:∃e∈F,∃u∈e.us,u.1=base+16*j+p.1
   ·exact Gi h5
   ·rw [DF h5];exact ((c4 x hl hR).2.2.1 p hp h4).2
  rintro e w' ⟨v,x,hl,c',rfl,rfl,hR,m1,m2,m3⟩;obtain ⟨d1,d2,d3,hK⟩:=c4 x hl hR;have wr:∀e' ∈F,∀p∈hl,rn (base+16*j) ρ p.1∈ρ∨∃k,k<16∧rn (base+16*j) ρ p.1=base+16*j+k:=fun e' he' p hp=>by
   unfold rn;cases h4:ρ[p.1]? with
   | none=>exact .inr ⟨p.1,(d3 p hp h4).1,rfl⟩
   | some s=>exact .inl (by simpa using List.mem_of_getElem? h4)
  have wr1:∀e' ∈F,∀p∈hl,rn (base+16*j) ρ p.1≠base+16*e'.i:=fun e' he' p hp heq=>by
   rcases wr e' he' p hp with h4 | ⟨k,h4,h5⟩
   ·obtain ⟨g,sz,es,h6⟩:=c2 _ h4;have:=(I.pr e' he').hv;rw [←heq,h6] at this;cases hus:e'.us with
    | nil=>rw [hus] at this;cases this
    | cons u' us' =>
     have h5:u' ∈e'.us:=by rw [hus];exact List.mem_cons_self
     exact ((cF e' he').1 u' h5).1 (by rw [(I.pr e' he').usn u' h5,←heq];exact h4)
   ·have:=nek e' he';omega
  have wr2:∀e' ∈F,∀u∈e'.us,∀p∈hl,rn (base+16*j) ρ p.1≠u.1:=fun e' he' u hu p hp=>by
   rw [(I.pr e' he').usn u hu];exact wr1 e' he' p hp
  have mHm:Kd (rn (base+16*j) ρ) hl (mH F h)=mH F (Kd (rn (base+16*j) ρ) hl h):=by
   funext r;by_cases h4:∃e∈F,∃u∈e.us,u.1=r
   ·rw [Gi h4];obtain ⟨e,he,u,hu,rfl⟩:=h4;rw [MO fun p hp=>wr2 e he u hu p hp];exact Gi ⟨e,he,u,hu,rfl⟩
   ·rw [DF h4];exact Z0 (DF h4)
  have hts:∀e' ∈F,∀r∈e'.ts,h r=Kd (rn (base+16*j) ρ) hl h r:=fun e' he' r hr=>(MO fun p hp heq=>by
   rcases wr e' he' p hp with h4 | ⟨k,h4,h5⟩
   ·exact (cF e' he').2.1 _ h4 (heq ▸ hr)
   ·have:=(cF e' he').2.2 r hr;omega).symm
  refine hK c' _ ?_;rw [PB,hh];refine I.next hj kpre (hf _) (fun e he=>⟨hts e he,(MO fun p hp=>wr1 e he p hp).symm⟩) ?_;rw [←mTput,←mHm];exact I.rel.put m1 m2 m3 k3
 ·rw [if_neg (by rw [I.rel.wanted (wF ▸ k1)];exact fun h=>by cases h)];refine hK c _ (I.next hj kpre (hf _) (fun e he=>⟨fun r hr=>rfl,rfl⟩) ?_);rw [←mTput];exact I.rel.put (.refl _ _) I.rel.hp (.v _) k3
end
end Go.Proofs.YthblfhgofopcaaaGreat
