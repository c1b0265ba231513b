/-
  Parts of the proof: VmF, VmG.
-/
import Derived.Test.YthblfhgofopcaaaGreatSH02
import Derived.Great.BuildSlice
set_option linter.all false
namespace Go.Proofs.YthblfhgofopcaaaGreat
open Go.RowKit
variable [DM]
def Mq (place:Nat→Option (Nat×Nat)):List AV→List (Nat×AV)→Option (Prop×List AV)
 | cells,[]=>some (True,cells)
 | cells,(i,x)::rest=>match place i with
  | none=>none
  | some (off,size)=>match Mq place (cells.take off++x.cs++cells.drop (off+x.cs.length)) rest with
   | some (p,l)=>some ((x.cs.length=size∧off+x.cs.length≤cells.length∧Ce x=true)∧p,l)
   | none=>none
def Is (T:Dj):List (Nat×Nat)→Option (List (Nat×Nat))
 | []=>some []
 | (off,t)::l=>match T t,Is T l with
  | some i,some r=>some ((off,i.size)::r)
  | _,_=>none
def JW (T:Dj) (t:Option TI) (parts:List (Nat×AV)):Rs:=match t with
 | some ⟨_,_,_,z, .st fs⟩=>match Is T fs with
  | some pl=>match Mq (fun i=>pl[i]?) (z.map .v) parts with
   | some (p,l)=> .out p (.agg l) []
   | none=> .bad
  | none=> .bad
 | some ⟨_,_,_,z, .arr _ e⟩=>match T e with
  | some ei=>match Mq (fun i=>some (i*ei.size,ei.size)) (z.map .v) parts with
   | some (p,l)=> .out p (.agg l) []
   | none=> .bad
  | none=> .bad
 | _=> .bad
def Hj (sz:Nat):List AV→List (Nat×AV)→Prop×List AV
 | es,[]=>(True,es)
 | es,(i,x)::rest=>((i<es.length∧x.cs.length=sz∧Ce x=true)∧(Hj sz (es.set i x) rest).1,(Hj sz (es.set i x) rest).2)
def Dq (T:Dj) (t:Option TI) (n:Nat) (parts:List (Nat×AV)) (nm:Nat):Rs:=match t with
 | some ⟨_,_,_,_, .slice e⟩=>match T e with
  | some ei=> .out (n*ei.size≤16777216∧0<ei.size∧(ei.agg=true∨ei.zero.length=1)∧(Hj ei.size (List.replicate n (Gf ei)) parts).1) (.rsl nm 0 0 n) [(nm, .arr 0 ei.size (Hj ei.size (List.replicate n (Gf ei)) parts).2)]
  | none=> .bad
 | _=> .bad
def EF (T:Dj) (t:Option TI) (nm:Nat):AV→AV→Rs
 | .v (.int _ l), .v (.int _ cp)=>match t with
  | some ⟨_,_,_,_, .slice e⟩=>match T e with
   | some ei=> .out (l=cp∧0≤l∧(ei.bytes:Int)*l≤281474976710656∧l≤9223372036854775807∧0<ei.size∧(ei.agg=true∨ei.zero.length=1)) (.rsl nm 0 0 l.toNat) [(nm, .arr 0 ei.size (List.replicate l.toNat (Gf ei)))]
   | none=> .bad
  | _=> .bad
 | _,_=> .bad
def F6:AV→Nat→Rs
 | .tup l,i=> .out (i<l.length) (Dv l i) []
 | _,_=> .bad
def Es:Fn→List AV→List AV→Rs
 | .func f,[],cap=> .pure (.clo f cap)
 | _,_,_=> .bad
def Et :Option AV→Int→Option Int
 | none,d=>some d
 | some (.v (.int _ n)),_=>some n
 | _,_=>none
def Fl (T:Dj) (h:HF) (t:Option TI) (x:AV) (lo hi mx:Option AV) (nm:Nat):Rs:=match t with
 | some ⟨_,_,_,_, .slice e⟩=>match T e with
  | some ei=>match Et lo 0 with
   | some l=>match mx with
    | none=>match x with
     | .sl f sz es=>match Et hi es.length with
      | some m=> .out (ei.size=sz∧0≤l∧l≤m∧m≤(es.length:Int)) (.sl f sz ((es.drop l.toNat).take (m-l).toNat)) []
      | none=> .bad
     | .rsl r g o n=>match Et hi n with
      | some m=>match h r with
       | .arr g' sz _=> .out (g' =g∧ei.size=sz∧0≤l∧l≤m∧m≤(n:Int)) (.rsl r g (o+l.toNat) (m-l).toNat) []
       | _=> .bad
      | none=> .bad
     | .v (.slice none 0 0)=>match Et hi 0 with
      | some m=> .out (l=0∧m=0) (.v (.slice none 0 0)) []
      | none=> .bad
     | _=> .bad
    | some mx=>match mx,Et hi 0 with
     | .v (.int _ q),some m=>match x with
      | .sl _ _ _es=> .out (l=0∧m=0∧q=0∧hi.isSome=true) (.rsl nm 0 0 0) [(nm, .arr 0 ei.size [])]
      | .rsl r g _ _=>match h r with
       | .arr g' _ _=> .out (g' =g∧l=0∧m=0∧q=0∧hi.isSome=true) (.rsl nm 0 0 0) [(nm, .arr 0 ei.size [])]
       | _=> .bad
      | .v (.slice none 0 0)=> .out (l=0∧m=0∧q=0∧hi.isSome=true) (.rsl nm 0 0 0) [(nm, .arr 0 ei.size [])]
      | _=> .bad
     | _,_=> .bad
   | none=> .bad
  | none=> .bad
 | _=> .bad
section
variable {P:Program} {T:Dj} {c:Cx} {h:HF} {ρ:Operand→Value} {o:Oper} {x:AV} {p:Prop} {us:List (Nat×Ob)}
def XZ (c:Cx) (h:HF) (l:List AV) (cells:Array Value):Prop:=cells.size=l.length∧∀(j:Nat) (u:AV),l[j]? =some u→∃y,cells[j]? =some y∧AS c h u y
theorem NG {place:Nat→Option (Nat×Nat)} {g:Operand→AV} (hg:∀X,AS c h (g X) (ρ X)):∀(parts:List (Nat×Operand)) (l l' :List AV) (cells:Array Value) (q:Prop),XZ c h l cells→
  Mq place l (parts.map fun y=>(y.1,g y.2))=some (q,l')→q→∃cells',Instr.fill place cells (parts.map fun y=>(y.1,ρ y.2))=some cells' ∧XZ c h l' cells'
 | [],l,l',cells,q,hr,hf,_=>by
  simp only [List.map_nil,Mq] at hf;injection hf with hf
  injection hf with h1 h2
  subst h2;exact ⟨cells,rfl,hr⟩
 | (i,X)::rest,l,l',cells,q,hr,hf,hq=>by
  simp only [List.map_cons,Mq] at hf;split at hf
  ·cases hf
  ·rename_i off size hpl;split at hf
   ·rename_i q' l1 hf';injection hf with hf
    injection hf with h1 h2
    subst h1 h2;obtain ⟨⟨a1,a2,a3⟩,hq'⟩:=hq;obtain ⟨b1,b2⟩:=Im a3 (hg X);obtain ⟨hs,hc⟩:=hr;have hfs:=Great.foldl_set off (ρ X).cells.toList 0 cells;generalize hcl:((ρ X).cells.toList.zipIdx 0).foldl (fun cs (x:Value×Nat)=>cs.setIfInBounds (off+x.2) x.1) cells=cells1 at hfs;obtain ⟨f1,f2⟩:=hfs;have hlen:(ρ X).cells.toList.length=(g X).cs.length:=by simp [b1]
    obtain ⟨cells',e1,e2⟩:=NG hg rest _ l1 cells1 q' ⟨by simp;omega,fun j u hj=>by
     rw [f2 j]
     by_cases m1:j<off
     ·rw [Fe m1 (by omega)] at hj
      rw [if_neg (by omega)]
      exact hc j u hj
     ·by_cases m2:j<off+(g X).cs.length
      ·rw [Fq (by omega) m2 (by omega)] at hj
       rw [if_pos ⟨by omega,by omega,by omega⟩]
       obtain ⟨y,hy,hv⟩:=b2 _ u hj
       exact ⟨y,by simpa using hy,hv⟩
      ·rw [Gb (by omega) (by omega)] at hj
       rw [if_neg (by omega)]
       exact hc j u hj⟩ hf' hq'
    refine ⟨cells',?_,e2⟩;simp only [List.map_cons,Instr.fill,hpl];rw [if_neg (by simp [b1,a1];omega)];have hcl' :(ρ X).cells.zipIdx.foldl (fun cs (x:Value×Nat)=>cs.setIfInBounds (off+x.2) x.1) cells=cells1:=by
     rw [←hcl,←Array.foldl_toList];simp
    rw [hcl'];exact e1
   ·cases hf
theorem O3 (hT:CQ P T):∀(fs:List Field) (pl:List (Nat×Nat)),Is T (fs.map fun f=>(f.offset,f.type))=some pl→fs.mapM (fun f=>(P.info? f.type).map fun i=>(f.offset,i.size))=some pl
 | [],pl,hp=>by simp only [List.map_nil,Is] at hp;injection hp with hp;subst hp;rfl
 | f::fs,pl,hp=>by
  simp only [List.map_cons,Is] at hp;split at hp
  ·rename_i i r hi hr;injection hp with hp
   subst hp;obtain ⟨j,_,_,h1,_,_,_,h2,_⟩:=Cd hT hi;have:=O3 hT fs r hr;simp [List.mapM_cons,h1,h2,this]
  ·cases hp
theorem QL {z:Value} {l:List Value} (hz:z.cells.toList=l):XZ c h (l.map .v) z.cells:=by
 subst hz;refine ⟨by simp,fun j u hu=> ?_⟩;simp only [List.getElem?_map,Option.map_eq_some_iff] at hu;obtain ⟨v,hv,rfl⟩:=hu;exact ⟨v,by simpa using hv, .v v⟩
theorem aX {l:List AV} {cells:Array Value} (hr:XZ c h l cells):AS c h (.agg l) (.agg cells) :=
 .agg _ _ hr.1.symm fun i x y hx hy=>by
  obtain ⟨y',h1,h2⟩:=hr.2 i x hx;rw [hy] at h1;injection h1 with h1
  rw [h1];exact h2
theorem VR {t:Nat} {parts:Array (Nat×Operand)} {g:Operand→AV} (hg:∀X,AS c h (g X) (ρ X)) (hT:CQ P T) (ho:o.op= .build t parts) (hh:BH c h)
  (hp:JW T (T t) (parts.toList.map fun y=>(y.1,g y.2))= .out p x us) (hq:p):IL P c h (execOp ρ o) x (Bc us h):=by
 unfold JW at hp;have fin:∀cells l,P.built t (parts.toList.map fun y=>(y.1,ρ y.2))=some cells→XZ c h l cells→x= .agg l→us=[]→IL P c h (execOp ρ o) x (Bc us h):=fun cells l h1 h2 h3 h4=>by
  subst h3 h4;have hr:=run_build (P:=P) c.w t (parts.map fun (i,x)=>(i,ρ x)) cells (by rw [Array.toList_map];exact h1);exact .val (y:= .agg cells) (by simp only [execOp,ho,Sem.run_bind,hr,Result.andThen_ok,Sem.run_pure]) hh (aX h2)
 split at hp
 ·rename_i z fs ht;obtain ⟨j,d,zv,i1,i2,i3,_,_,_,i4,_,_⟩:=Cd hT ht;obtain ⟨F,hu,hF⟩:=Tt hT ht rfl;split at hp
  ·rename_i pl hpl;split at hp
   ·rename_i q l hf;injection hp with h1 h2 h3
    obtain ⟨cells',e1,e2⟩:=NG hg parts.toList _ l zv.cells q (QL i4) hf (h1 ▸ hq);refine fin cells' l ?_ e2 h2.symm h3.symm;rw [←hF] at hpl;have hpm:=O3 hT F.toList pl hpl;unfold Program.built;rw [i1,hu];simp only [i3,hpm];simpa using e1
   ·cases hp
  ·cases hp
 ·rename_i z n e ht;obtain ⟨j,d,zv,i1,i2,i3,_,_,_,i4,_,_⟩:=Cd hT ht;have hu:=Po hT ht rfl;split at hp
  ·rename_i ei hte;split at hp
   ·rename_i q l hf;injection hp with h1 h2 h3
    obtain ⟨cells',e1,e2⟩:=NG hg parts.toList _ l zv.cells q (QL i4) hf (h1 ▸ hq);refine fin cells' l ?_ e2 h2.symm h3.symm;obtain ⟨je,_,_,k1,_,_,_,k2,_⟩:=Cd hT hte;unfold Program.built;rw [i1,hu];simp only [i3,k1,k2];exact e1
   ·cases hp
  ·cases hp
 ·cases hp
def S8 (c:Cx) (h:HF) (sz:Nat) (es:List AV) (cells:Array Value):Prop:=cells.size=es.length*sz∧(∀(i:Nat) (e:AV),es[i]? =some e→e.cs.length=sz)∧
 ∀(i:Nat) (e:AV) (j:Nat) (u:AV),es[i]? =some e→e.cs[j]? =some u→∃y,cells[i*sz+j]? =some y∧AS c h u y
theorem S8.set {sz:Nat} {es:List AV} {cells cells' :Array Value} {i:Nat} {x:AV} (hr:S8 c h sz es cells) (hi:i<es.length) (hs:cells'.size=cells.size) (hx:x.cs.length=sz)
  (h1:∀m,m<i*sz→cells'[m]? =cells[m]?) (h2:∀m,i*sz+sz≤m→cells'[m]? =cells[m]?) (h3:∀(j:Nat) (u:AV),x.cs[j]? =some u→∃y,cells'[i*sz+j]? =some y∧AS c h u y):S8 c h sz (es.set i x) cells' :=by
 obtain ⟨a1,a2,a3⟩:=hr;refine ⟨by simp [hs,a1],fun k e he=> ?_,fun k e j u he hj=> ?_⟩
 ·rw [List.getElem?_set] at he;split at he
  ·simp at he;rw [←he];exact hx
  ·exact a2 k e he
 ·rw [List.getElem?_set] at he;split at he
  ·rename_i hk;subst hk;simp at he;obtain ⟨_,rfl⟩:=he;exact h3 j u hj
  ·rename_i hk;obtain ⟨y,hy,hv⟩:=a3 k e j u he hj;have hlt:j<sz:=by rw [←a2 k e he];exact (List.getElem?_eq_some_iff.1 hj).1
   refine ⟨y,?_,hv⟩;rcases Nat.lt_or_gt_of_ne hk with h4 | h4
   ·have:i*sz+sz≤k*sz:=by rw [←Nat.succ_mul];exact Nat.mul_le_mul_right _ h4
    rw [h2 _ (by omega)];exact hy
   ·have:k*sz+sz≤i*sz:=by rw [←Nat.succ_mul];exact Nat.mul_le_mul_right _ h4
    rw [h1 _ (by omega)];exact hy
theorem Oj {sz:Nat} {g:Operand→AV} (hg:∀X,AS c h (g X) (ρ X)):∀(parts:List (Nat×Operand)) (es:List AV) (cells:Array Value),S8 c h sz es cells→
  (Hj sz es (parts.map fun y=>(y.1,g y.2))).1→∃cells',Instr.fill (fun i=>some (i*sz,sz)) cells (parts.map fun y=>(y.1,ρ y.2))=some cells' ∧S8 c h sz (Hj sz es (parts.map fun y=>(y.1,g y.2))).2 cells'
 | [],es,cells,hr,_=>⟨cells,rfl,hr⟩
 | (i,X)::rest,es,cells,hr,hq=>by
  simp only [List.map_cons,Hj] at hq ⊢;obtain ⟨⟨a1,a2,a3⟩,hq'⟩:=hq;obtain ⟨b1,b2⟩:=Im a3 (hg X);have hfs:=Great.foldl_set (i*sz) (ρ X).cells.toList 0 cells;generalize hcl:((ρ X).cells.toList.zipIdx 0).foldl (fun cs (x:Value×Nat)=>cs.setIfInBounds (i*sz+x.2) x.1) cells=cells1 at hfs;obtain ⟨f1,f2⟩:=hfs;have hlen:(ρ X).cells.toList.length=sz:=by simp [b1,a2]
  have hfit:i*sz+sz≤cells.size:=by rw [hr.1,←Nat.succ_mul];exact Nat.mul_le_mul_right _ a1
  obtain ⟨cells',e1,e2⟩:=Oj hg rest (es.set i (g X)) cells1 (hr.set a1 f1 a2 (fun m hm=>by rw [f2 m,if_neg (by omega)]) (fun m hm=>by rw [f2 m,if_neg (by omega)]) (fun j u hj=>by
   have hlt:j<sz:=by rw [←a2];exact (List.getElem?_eq_some_iff.1 hj).1
   rw [f2,if_pos ⟨by omega,by omega,by omega⟩]
   obtain ⟨y,hy,hv⟩:=b2 j u hj
   exact ⟨y,by rw [show i*sz+j-(i*sz+0)=j by omega];simpa using hy,hv⟩)) hq'
  refine ⟨cells',?_,e2⟩;simp only [Instr.fill];rw [if_neg (by simp [b1,a2];omega)];have hcl' :(ρ X).cells.zipIdx.foldl (fun cs (x:Value×Nat)=>cs.setIfInBounds (i*sz+x.2) x.1) cells=cells1:=by
   rw [←hcl,←Array.foldl_toList];simp
  rw [hcl'];exact e1
theorem Ts {i:TI} (hz:i.agg=true∨i.zero.length=1):(Gf i).cs=i.zero.map .v:=by
 unfold Gf;split
 ·rfl
 ·rename_i hna;rcases hz with h1 | h1
  ·exact absurd h1 hna
  ·obtain ⟨a,ha⟩:=List.length_eq_one_iff.1 h1;rw [ha];rfl
theorem QV {i:TI} {z:Value} (n:Nat) (hz:i.agg=true∨i.zero.length=1) (_h0:0<i.size) (z1:z.cells.toList=i.zero) (z2:z.cells.size=i.size):S8 c h i.size (List.replicate n (Gf i)) (madeCells z.cells (n*i.size)):=by
 have hl:i.zero.length=i.size:=by rw [←z1];simpa using z2
 refine ⟨by simp [madeCells],fun k e he=> ?_,fun k e j u he hj=> ?_⟩
 ·simp [List.getElem?_replicate] at he;rw [←he.2,Ts hz];simpa using hl
 ·simp [List.getElem?_replicate] at he;obtain ⟨hk,rfl⟩:=he;rw [Ts hz] at hj;simp only [List.getElem?_map,Option.map_eq_some_iff] at hj;obtain ⟨v,hv,rfl⟩:=hj;have hlt:j<i.size:=by rw [←hl];exact (List.getElem?_eq_some_iff.1 hv).1
  have hks:k*i.size+i.size≤n*i.size:=by rw [←Nat.succ_mul];exact Nat.mul_le_mul_right _ hk
  refine ⟨v,?_, .v v⟩;unfold madeCells;rw [Array.getElem?_map,Array.getElem?_range];simp only [if_pos (show k*i.size+j<n*i.size by omega),Option.map_some];congr 1;rw [z2,Nat.add_comm,Nat.add_mul_mod_self_right,Nat.mod_eq_of_lt hlt];rw [←z1] at hv;have:z.cells[j]? =some v:=by simpa using hv
  simp [getElem!_def,this]
end
end Go.Proofs.YthblfhgofopcaaaGreat

namespace Go.Proofs.YthblfhgofopcaaaGreat
open Go.RowKit
variable [DM]
section
variable {P:Program} {T:Dj} {c:Cx} {h:HF} {ρ:Operand→Value} {o:Oper} {x:AV} {p:Prop} {us:List (Nat×Ob)}
theorem OQ (hh:BH c h) {nm:Nat} (hn:h nm= .nil) {sz n:Nat} {es:List AV} {cells:Array Value} {ty:Nat} {s:Sem Next} (hr:S8 c h sz es cells) (hl:es.length=n) (hm:n≤maxLen)
  (hrun:s.run P c.w= .ok (.value (.slice (some ⟨c.w.heap.size,0,none⟩) n n)) (c.w.alloc (.cells cells ty))):IL P c h s (.rsl nm 0 0 n) (Bc [(nm, .arr 0 sz es)] h):=by
 obtain ⟨K,H,e1⟩:=Ja hh hn sz es cells ty (Nat.le_of_eq hr.1.symm) hr.2.1 hr.2.2;refine ⟨_,_, .inl hrun,K,H, .rsl _ _ _ _ _ rfl ?_⟩;rw [e1];refine ⟨Nat.le_refl _,fun _=>⟨_,_,rfl,Nat.le_refl _,hm,fun h0=>⟨by simp,by simp,cells,ty,?_,?_⟩⟩⟩
 ·simp only [if_true];exact heap_alloc_new c.w _
 ·rw [hr.1,hl];simp
theorem Ml {t n nm:Nat} {parts:Array (Nat×Operand)} {g:Operand→AV} (hg:∀X,AS c h (g X) (ρ X)) (hT:CQ P T) (ho:o.op= .buildSlice t n parts) (hh:BH c h) (hn:h nm= .nil)
  (hp:Dq T (T t) n (parts.toList.map fun y=>(y.1,g y.2)) nm= .out p x us) (hq:p):IL P c h (execOp ρ o) x (Bc us h):=by
 unfold Dq at hp;split at hp
 ·rename_i e ht;have hu:=DG hT ht rfl;split at hp
  ·rename_i ei hte;obtain ⟨je,_,zv,i1,i2,i3,i4,i5,_,i6,_,_⟩:=Cd hT hte;injection hp with h1 h2 h3
   subst h1 h2 h3;obtain ⟨q1,q2,q3,q4⟩:=hq;obtain ⟨cells',e1,e2⟩:=Oj hg parts.toList _ (madeCells zv.cells (n*ei.size)) (QV n q3 q2 i6 i4) q4;have hlen:(Hj ei.size (List.replicate n (Gf ei)) (parts.toList.map fun y=>(y.1,g y.2))).2.length=n:=by
    have:∀(l:List (Nat×AV)) (es:List AV),(Hj ei.size es l).2.length=es.length:=by
     intro l;induction l with
     | nil=>intro es;rfl
     | cons y l ih=>intro es;obtain ⟨i,x⟩:=y;simp only [Hj];rw [ih];simp
    rw [this];simp
   have hn16:n≤16777216:=Nat.le_trans (Nat.le_mul_of_pos_right n q2) q1;refine OQ hh hn e2 hlen (by unfold maxLen;omega) (ty:=e) ?_;by_cases h0:n=0
   ·subst h0;have hc0:cells' = #[]:=by
     have:=e2.1;rw [hlen] at this;exact Array.size_eq_zero_iff.1 (by simpa using this)
    subst hc0;have hp0:parts= #[]:=by
     cases hpl:parts.toList with
     | nil=>exact Array.toList_eq_nil_iff.1 hpl
     | cons y l =>
      rw [hpl] at q4;simp only [List.map_cons,Hj] at q4;exact absurd q4.1.1 (by simp)
    subst hp0;simp [execOp,ho,Instr.buildSlice,run_underlying hu,sizeOf,typeInfo,i1,newRow,Instr.fill];congr 2;exact Array.size_eq_zero_iff.1 (by simp)
   ·have e1' :Instr.fill (fun i=>some (i*je.size,je.size)) ((Array.range (n*je.size)).map (zv.cells[· % zv.cells.size]!)) (parts.map fun (i,x)=>(i,ρ x)).toList=some cells' :=by
     rw [i5,Array.toList_map];exact e1
    have hr:=run_buildSlice (P:=P) c.w t e n (parts.map fun (i,x)=>(i,ρ x)) cells' je zv hu i1 i3 (by rw [i5];omega) (by rw [i5];exact Nat.ne_of_gt (Nat.mul_pos (by omega) q2)) e1';simp only [execOp,ho,Sem.run_bind,hr,Result.andThen_ok,Sem.run_pure]
  ·cases hp
 ·cases hp
theorem N9 {t nm:Nat} {L C:Operand} {a b:AV} (hT:CQ P T) (ho:o.op= .makeSlice t L C) (hh:BH c h) (ha:AS c h a (ρ L)) (hb:AS c h b (ρ C)) (hn:h nm= .nil) (hp:EF T (T t) nm a b= .out p x us) (hq:p):IL P c h (execOp ρ o) x (Bc us h):=by
 unfold EF at hp;split at hp
 ·rename_i k1 l k2 cp;have hL:=As ha;have hC:=As hb;split at hp
  ·rename_i e ht;have hu:=DG hT ht rfl;split at hp
   ·rename_i ei hte;obtain ⟨je,_,zv,i1,i2,i3,i4,i5,i6,i7,_,_⟩:=Cd hT hte;injection hp with h1 h2 h3
    subst h1 h2 h3;obtain ⟨rfl,q1,q2,q3,q4,q5⟩:=hq;have hr:=run_make (P:=P) c.w t e je zv hu i1 i3 k1 k2 l l q1 (Int.le_refl _) (by rw [i6];exact q2) q3;rw [i5] at hr;refine OQ hh hn (QV l.toNat q5 q4 i7 i4) (by simp) (by unfold maxLen;omega) (ty:=e) ?_;simp only [execOp,ho,hL,hC,Sem.run_bind,hr,Result.andThen_ok,Sem.run_pure]
   ·cases hp
  ·cases hp
 ·cases hp
theorem Rx {X:Operand} {i:Nat} {a:AV} (ho:o.op= .extract X i) (hh:BH c h) (ha:AS c h a (ρ X)) (hp:F6 a i= .out p x us) (hq:p):IL P c h (execOp ρ o) x (Bc us h):=by
 unfold F6 at hp;split at hp
 ·rename_i l;injection hp with h1 h2 h3
  subst h1 h2 h3;generalize hy:ρ X=y at *;cases ha with
  | tup _ ys hl hi =>
   have hlt:i<ys.size:=by omega
   exact .val (y:=ys[i]) (by simp [execOp,ho,hy,Instr.extract,hlt]) hh (hi i _ _ (by simp [Dv,hq]) (by simp [hlt]))
 ·cases hp
theorem Pu {fn:Fn} {first cap:Array Operand} {g:Operand→AV} (hg:∀X,AS c h (g X) (ρ X)) (ho:o.op= .makeFunc fn first cap) (hh:BH c h) (hp:Es fn (first.toList.map g) (cap.toList.map g)= .out p x us):IL P c h (execOp ρ o) x (Bc us h):=by
 unfold Es at hp;split at hp
 ·rename_i f hf;injection hp with h1 h2 h3
  subst h2 h3;have hf0:first= #[]:=by
   have:first.toList=[]:=by simpa using hf
   exact Array.toList_eq_nil_iff.1 this
  subst hf0;exact .val (y:= .func (.func f) #[] (cap.map ρ)) (by simp [execOp,ho,Instr.makeFunc]) hh (.clo _ _ _ (by simp) fun i x y hx hy=>by
   simp only [List.getElem?_map,Option.map_eq_some_iff] at hx
   simp only [Array.getElem?_map,Option.map_eq_some_iff] at hy
   obtain ⟨X,h1,rfl⟩:=hx
   obtain ⟨Y,h2,rfl⟩:=hy
   have:X=Y:=by
    rw [←Array.getElem?_toList] at h2
    rw [h1] at h2;injection h2
   rw [this];exact hg Y)
 ·cases hp
theorem QC {s f:Nat} {X:Operand} {a:AV} (hT:CQ P T) (ho:o.op= .field s X f) (hh:BH c h) (ha:AS c h a (ρ X)) (hp:Eu T (T s) f a= .out p x us) (hq:p):IL P c h (execOp ρ o) x (Bc us h):=by
 unfold Eu at hp;split at hp
 ·rename_i fs ht;obtain ⟨F,hu,hF⟩:=Tt hT ht rfl;split at hp
  ·rename_i off ft hf;split at hp
   ·rename_i i hft;have hFf:∃fl,F[f]? =some fl∧fl.offset=off∧fl.type=ft:=by
     rw [←hF] at hf;simp only [List.getElem?_map,Option.map_eq_some_iff] at hf;obtain ⟨fl,h1,h2⟩:=hf;injection h2 with h2 h3
     exact ⟨fl,by simpa using h1,h2,h3⟩
    obtain ⟨fl,hfl,rfl,rfl⟩:=hFf;have hsz:=Dr hT hft c.w;have hag:=Ig hT hft c.w;split at hp
    ·rename_i l;generalize hy:ρ X=y at *;cases ha with
     | agg _ ys hl hi =>
      split at hp
      ·rename_i hagg;injection hp with h1 h2 h3
       subst h1 h2 h3;rw [hagg] at hag;refine .val (y:= .agg (ys.extract fl.offset (fl.offset+i.size))) (by simp [execOp,ho,hy,Instr.field,run_underlying hu,hfl,asAgg,part,hag,hsz]) hh (.agg _ _ (by simp;omega) fun m u v hu' hv=> ?_);rw [List.getElem?_take] at hu';split at hu'
       ·rw [List.getElem?_drop] at hu';rw [Array.getElem?_extract] at hv;split at hv
        ·exact hi _ u v hu' hv
        ·cases hv
       ·cases hu'
      ·rename_i hagg;have hagg' :i.agg=false:=by simpa using hagg
       injection hp with h1 h2 h3
       subst h1 h2 h3;rw [hagg'] at hag;have hlt:fl.offset<ys.size:=by omega
       exact .val (y:=ys[fl.offset]) (by simp [execOp,ho,hy,Instr.field,run_underlying hu,hfl,asAgg,part,hag,hlt]) hh (hi fl.offset _ _ (by simp [Dv,hq]) (by simp [hlt]))
    ·cases hp
   ·cases hp
  ·cases hp
 ·cases hp
theorem Uk {t:Nat} {X J:Operand} {a i:AV} (hT:CQ P T) (ho:o.op= .index t X J) (hh:BH c h) (ha:AS c h a (ρ X)) (hi:AS c h i (ρ J)) (hp:JS T (T t) a i= .out p x us) (hq:p):IL P c h (execOp ρ o) x (Bc us h):=by
 unfold JS at hp;split at hp
 ·rename_i m e kk n ht;have hI:=As hi;have hu:=Po hT ht rfl;split at hp
  ·rename_i ei hte;have hsz:=Dr hT hte c.w;have hag:=Ig hT hte c.w;split at hp
   ·rename_i l;generalize hy:ρ X=y at *;cases ha with
    | agg _ ys hl hr =>
     split at hp
     ·rename_i hagg;injection hp with h1 h2 h3
      subst h1 h2 h3;obtain ⟨q0,q1,q2⟩:=hq;rw [hagg] at hag;refine .val (y:= .agg (ys.extract (n.toNat*ei.size) (n.toNat*ei.size+ei.size))) (by simp [execOp,ho,hy,hI,Instr.index,asIntOf,run_underlying hu,q0,q1,part,hag,hsz]) hh (.agg _ _ (by simp;omega) fun m u v hu' hv=> ?_);rw [List.getElem?_take] at hu';split at hu'
      ·rw [List.getElem?_drop] at hu';rw [Array.getElem?_extract] at hv;split at hv
       ·exact hr _ u v hu' hv
       ·cases hv
      ·cases hu'
     ·rename_i hagg;have hagg' :ei.agg=false:=by simpa using hagg
      injection hp with h1 h2 h3
      subst h1 h2 h3;obtain ⟨q0,q1,q2,q3⟩:=hq;rw [hagg'] at hag;have hlt:n.toNat<ys.size:=by omega
      exact .val (y:=ys[n.toNat]) (by simp [execOp,ho,hy,hI,Instr.index,asIntOf,run_underlying hu,q0,q1,part,hag,hsz,q2,hlt]) hh (hr n.toNat _ _ (by simp [Dv,q3]) (by simp [hlt]))
   ·cases hp
  ·cases hp
 ·cases hp
theorem LO (hh:BH c h) {nm:Nat} (hn:h nm= .nil) (sz:Nat) {A:Option Addr} {s:Sem Next} (hrun:s.run P c.w= .ok (.value (.slice A 0 0)) c.w):IL P c h s (.rsl nm 0 0 0) (Bc [(nm, .arr 0 sz [])] h):=by
 have e1:Bc [(nm, .arr 0 sz [])] h nm= .arr 0 sz []:=by simp [Bc]
 have e2:∀r,r≠nm→Bc [(nm, .arr 0 sz [])] h r=h r:=fun r hr=>by simp [Bc,hr]
 have hne:∀r ob,h r=ob→(match ob with | .nil=>False | _=>True)→r≠nm:=fun r ob h1 h2 h3=>by
  subst h3;rw [hn] at h1;subst h1;exact h2
 let c' :Cx:={ c with rl:=fun r=>if r=nm then false else c.rl r };have r1:c'.rl nm=false:=by simp [c']
 have r2:∀r,r≠nm→c'.rl r=c.rl r:=fun r hr=>by simp [c',hr]
 have K:Bj c h c' (Bc [(nm, .arr 0 sz [])] h):={
  dr:= .inr (Nat.le_refl _)
  os:=rfl
  tape:=rfl
  output:=rfl
  size:=Nat.le_refl _
  blk:=fun _ _ _=>rfl
  dd:=fun r hr=>by rw [e2 r (hne r _ hr trivial)];exact hr
  ar:=fun r g1 s1 es1 hr=>by
   have hq:=hne r _ hr trivial
   exact .inr ⟨g1,es1,by rw [e2 r hq];exact hr,Nat.le_refl _,fun _=>⟨rfl,r2 r hq,fun _ cs t hcs=>⟨cs,hcs,rfl⟩⟩⟩
  fr:=fun r g1 s1 es1 hr hl=>by
   by_cases hq:r=nm
   ·subst hq;rw [r1] at hl;cases hl
   ·exact .inr ⟨g1,es1,by rw [←e2 r hq];exact hr,by rw [←r2 r hq];exact hl,rfl⟩
  okT:=rfl
  okF:=rfl
  n0:=rfl }
 refine ⟨_,c', .inl hrun,K,⟨?_,?_,?_⟩, .rsl _ _ _ _ _ rfl ?_⟩
 ·intro r g1 s1 es1 hr hl;by_cases hq:r=nm
  ·subst hq;rw [r1] at hl;cases hl
  ·rw [e2 r hq] at hr;rw [r2 r hq] at hl;obtain ⟨cs,t,h1,h2,h3,h4⟩:=hh.ar r g1 s1 es1 hr hl;exact ⟨cs,t,h1,h2,h3,fun i e j x he hj=>by
    obtain ⟨y,hy,hv⟩:=h4 i e j x he hj
    exact ⟨y,hy,hv.ext K.ext⟩⟩
 ·intro r g1 s1 es1 hr hl;by_cases hq:r=nm
  ·subst hq;rw [e1] at hr;injection hr with _ _ h3;exact h3.symm
  ·rw [e2 r hq] at hr;rw [r2 r hq] at hl;exact hh.em r g1 s1 es1 hr hl
 ·intro r r' g1 g2 s1 s2 es1 es2 hr hr' hl hl' hb;by_cases hq:r=nm
  ·subst hq;rw [r1] at hl;cases hl
  by_cases hq' :r' =nm
  ·subst hq';rw [r1] at hl';cases hl'
  rw [e2 r hq] at hr;rw [e2 r' hq'] at hr';rw [r2 r hq] at hl;rw [r2 r' hq'] at hl';exact hh.inj r r' g1 g2 s1 s2 es1 es2 hr hr' hl hl' hb
 ·rw [e1];exact ⟨Nat.le_refl _,fun _=>⟨A,0,rfl,Nat.le_refl _,Nat.zero_le _,fun h0=>absurd h0 (Nat.lt_irrefl 0)⟩⟩
end
end Go.Proofs.YthblfhgofopcaaaGreat
