/-
  Parts of the proof: VmJC, VmK.
-/
import Derived.Test.YthblfhgofopcaaaGreatSH04
set_option linter.all false
namespace Go.Proofs.YthblfhgofopcaaaGreat
open Go.RowKit
variable [DM]
def VN (t:Option TI):AV→Rs
 | .v (.slice _ _ c)=>match t with
  | some ⟨_,_,_,_, .slice _⟩=> .pure (.v (.int .i64 c))
  | _=> .bad
 | _=> .bad
def JY (T:Dj) (h:HF) (t:Option TI) (a b:AV):Rs:=match t with
 | some ⟨_,_,_,_, .slice e⟩=>match T e with
  | some ei=>match FV h ei.size b with
   | some (q,news)=>match a with
    | .rsl r g o n=>match h r with
     | .arr g' sz es=> .out (q∧g' =g∧sz=ei.size∧o+n≤es.length∧(∀u∈news,∀v∈u.cs,v.one=true)) (.v (.int .i64 ((min news.length n:Nat):Int))) [(r, .arr g sz (es.take o++(news.take (min news.length n)++es.drop (o+min news.length n))))]
     | _=> .bad
    | _=> .bad
   | none=> .bad
  | none=> .bad
 | _=> .bad
def V6:AV→AV→Rs
 | .v (.int k a), .v (.int _ b)=> .pure (.v (.int k (if b<a then b else a)))
 | _,_=> .bad
def Xg:AV→AV→Rs
 | .v (.int k a), .v (.int _ b)=> .pure (.v (.int k (if b>a then b else a)))
 | _,_=> .bad
section
variable {P:Program} {T:Dj} {c:Cx} {h:HF} {ρ:Operand→Value} {o:Oper} {x:AV} {p:Prop} {us:List (Nat×Ob)}
def S5 (P:Program) (c:Cx) (h:HF) (sz:Nat) (y:Value) (news:List AV) (m:Nat):Prop :=
 ∃vals:List Value,vals.length=m*sz∧(∀w' :World,(Builtin.lenOf y).run P w' = .ok news.length w')∧(Builtin.firstCells sz m y).run P c.w= .ok vals.toArray c.w∧
  (∀(i:Nat) (e:AV),news[i]? =some e→e.cs.length=sz)∧∀(i:Nat) (e:AV) (j:Nat) (u:AV),i<m→news[i]? =some e→e.cs[j]? =some u→∃y,vals[i*sz+j]? =some y∧AS c h u y
theorem VB {sz:Nat} (hh:BH c h) {b:AV} {y:Value} (hb:AS c h b y) {q:Prop} {news:List AV} (hr:FV h sz b=some (q,news)) (hq:q) {m:Nat} (hm:m≤news.length) :
  S5 P c h sz y news m:=by
 have mk:∀(B o cap:Nat) (F:Nat→Nat→Value),(∀(i:Nat) (e:AV),news[i]? =some e→e.cs.length=sz)→
   (∀(i:Nat) (e:AV) (j:Nat) (u:AV),news[i]? =some e→e.cs[j]? =some u→c.w.cell? ⟨B,o+i*sz+j,none⟩=some (F i j))→
   (∀(i:Nat) (e:AV) (j:Nat) (u:AV),news[i]? =some e→e.cs[j]? =some u→AS c h u (F i j))→y= .slice (some ⟨B,o,none⟩) news.length cap→
   S5 P c h sz y news m:=fun B o cap F hs hc hv hy=>by
  let vals:=(List.range (m*sz)).map fun q=>F (q / sz) (q % sz)
  have hvl:vals.length=m*sz:=by simp [vals]
  have hat:∀(i:Nat) (e:AV) (j:Nat) (u:AV),i<m→news[i]? =some e→e.cs[j]? =some u→vals[i*sz+j]? =some (F i j):=fun i e j u hi he hj=>by
   have hlt:j<sz:=by rw [←hs i e he];exact (List.getElem?_eq_some_iff.1 hj).1
   have hks:i*sz+sz≤m*sz:=by rw [←Nat.succ_mul];exact Nat.mul_le_mul_right _ hi
   simp only [vals,List.getElem?_map];rw [List.getElem?_range (by omega)];simp only [Option.map_some];rw [Nat.add_comm,Nat.add_mul_div_right _ _ (by omega),Nat.add_mul_mod_self_right,Nat.mod_eq_of_lt hlt,Nat.div_eq_of_lt hlt,Nat.zero_add]
  have hR:∀(i:Nat) (e:AV) (j:Nat) (u:AV),i<m→news[i]? =some e→e.cs[j]? =some u→∃y,vals[i*sz+j]? =some y∧AS c h u y:=fun i e j u hi he hj=>⟨_,hat i e j u hi he hj,hv i e j u he hj⟩
  subst hy;have hcell:∀(k:Nat) (v:Value),vals[k]? =some v→c.w.cell? ((⟨B,o,none⟩:Addr).add k)=some v:=fun k v hkv=>by
   have hml:=(List.getElem?_eq_some_iff.1 hkv).1;have hz0:0<sz:=by
    rcases Nat.eq_zero_or_pos sz with h0 | h0
    ·rw [hvl,h0] at hml;simp at hml
    ·exact h0
   have hi' :k / sz<m:=by rw [Nat.div_lt_iff_lt_mul hz0];omega
   have hi:k / sz<news.length:=by omega
   have he:news[k / sz]? =some news[k / sz]:=List.getElem?_eq_getElem hi;have hcl:=hs _ _ he;have hj:k % sz<news[k / sz].cs.length:=by rw [hcl];exact Nat.mod_lt _ hz0
   have hu:news[k / sz].cs[k % sz]? =some (news[k / sz].cs[k % sz]'hj):=List.getElem?_eq_getElem hj;have e1:k / sz*sz+k % sz=k:=Nat.div_add_mod' k sz;have h3:=hat _ _ _ _ hi' he hu;rw [e1,hkv] at h3;injection h3 with h3
   have h4:=hc _ _ _ _ he hu;rw [Addr.add_lit];rw [show o+k / sz*sz+k % sz=o+k by omega] at h4;rw [h4,h3]
  exact ⟨vals,hvl,fun _=>rfl,run_firstCells_some c.w sz m ⟨B,o,none⟩ news.length cap vals hvl hcell,hs,hR⟩
 have em:news=[]→(∃A cap,y= .slice A 0 cap)→S5 P c h sz y news m:=fun hn hy=>by
  subst hn;obtain ⟨A,cap,rfl⟩:=hy;have hm0:m=0:=by simpa using hm
  subst hm0;refine ⟨[],by simp,fun _=>rfl,?_,fun i e he=>by simp at he,fun i e j u hi=>absurd hi (Nat.not_lt_zero i)⟩;cases A<;>simp [Builtin.firstCells,loadCells,loadCellsFrom]
 unfold FV at hr;split at hr
 ·injection hr with hr
  injection hr with h2 h3
  exact em h3.symm ⟨none,0,As hb⟩
 ·injection hr with hr
  injection hr with h2 h3
  exact em h3.symm ⟨_,_,As hb⟩
 ·rename_i f s es;injection hr with hr
  injection hr with h2 h3
  subst h2 h3;subst hq;cases hb with
  | slE _ _ A cap _=>exact em rfl ⟨A,cap,rfl⟩
  | sl _ _ _ B o cap ys k1 k2 k3 k4 k5 k6=>exact mk B o cap ys k4 k5 k6 rfl
 ·rename_i r g o n;split at hr
  ·rename_i g' s es hro;injection hr with hr
   injection hr with h2 h3
   subst h2 h3;obtain ⟨rfl,rfl,hle⟩:=hq;cases hb with
   | rsl _ _ _ _ _ _ hgd =>
    rw [hro] at hgd;obtain ⟨A,cap,hy,k1,k2,k3⟩:=hgd.2 rfl;have hlen:((es.drop o).take n).length=n:=by simp;omega
    by_cases h0:n=0
    ·subst h0;exact em (by simp) ⟨A,cap,hy⟩
    ·obtain ⟨j1,rfl,_⟩:=k3 (by omega);obtain ⟨cs,ty,a1,a2,a3,a4⟩:=hh.ar r g' s es hro j1;have key:∀(i:Nat) (e:AV),((es.drop o).take n)[i]? =some e→es[o+i]? =some e:=fun i e he=>by
      rw [List.getElem?_take] at he;split at he
      ·rwa [List.getElem?_drop] at he
      ·cases he
     refine mk (c.bl r) (o*s) cap (fun i j=>cs[(o+i)*s+j]?.getD undef) (fun i e he=>a3 _ e (key i e he)) (fun i e j u he hj=> ?_) (fun i e j u he hj=> ?_) (by rw [hlen];exact hy)
     ·obtain ⟨v,hv,_⟩:=a4 _ e j u (key i e he) hj;rw [cell_of_row c.w _ _ cs ty (0,0) a1,show o*s+i*s+j=(o+i)*s+j by rw [Nat.add_mul],hv];rfl
     ·obtain ⟨v,hv,hrel⟩:=a4 _ e j u (key i e he) hj;show AS c h u (cs[(o+i)*s+j]?.getD undef);rw [hv];exact hrel
  ·cases hr
 ·cases hr
theorem aU {t:Nat} {X:Operand} {a:AV} {at' :Array Nat} (hT:CQ P T) (ho:o.op= .call ⟨.builtin .cap,#[X],at'⟩) (hat:at'[0]? =some t) (hh:BH c h) (ha:AS c h a (ρ X)) (hp:VN (T t) a= .out p x us):IL P c h (execOp ρ o) x (Bc us h):=by
 unfold VN at hp;split at hp
 ·split at hp
  ·rename_i ht;injection hp with h1 h2 h3
   subst h1 h2 h3;have hu:=DG hT ht rfl;refine .val ?_ hh (.v _);simp [execOp,ho,resolve,invoke,builtin,Builtin.cap_,hat,run_underlying hu,goInt,As ha]
  ·cases hp
 ·cases hp
theorem Xf {t:Nat} {A B:Operand} {a b:AV} {at' :Array Nat} (hT:CQ P T) (ho:o.op= .call ⟨.builtin .copy,#[A,B],at'⟩) (hat:at'[0]? =some t) (hh:BH c h) (ha:AS c h a (ρ A)) (hb:AS c h b (ρ B)) (hp:JY T h (T t) a b= .out p x us) (hq:p):IL P c h (execOp ρ o) x (Bc us h):=by
 unfold JY at hp;split at hp
 ·rename_i e ht;have hu:=DG hT ht rfl;split at hp
  ·rename_i ei hte;have hsz:=Dr hT hte c.w;split at hp
   ·rename_i q news hrd;split at hp
    ·rename_i r g o' n;split at hp
     ·rename_i g' sz es hr;injection hp with h1 h2 h3
      subst h1 h2 h3;obtain ⟨q1,rfl,rfl,q4,q5⟩:=hq;generalize hM:min news.length n=M;have hMn:M≤news.length:=by omega
      obtain ⟨vals,v1,v2,v3,v4,v5⟩:=VB (P:=P) hh hb hrd q1 hMn;cases ha' :ha with
      | rsl _ _ _ _ _ _ hgd =>
       rw [hr] at hgd;obtain ⟨Ad,cap,hy,k1,k2,k3⟩:=hgd.2 rfl;have hex:∀w',(Builtin.copy_ at' o.type #[ρ A,ρ B]).run P c.w= .ok (.int .i64 (M:Nat)) w' →(execOp ρ o).run P c.w= .ok (.value (.int .i64 (M:Nat))) w' :=fun w' hw=>by
        simp [execOp,ho,resolve,invoke,builtin,hw]
       have hmin:Nat.min news.length n=M:=hM;by_cases hM0:M=0
       ·subst hM0;have hv0:vals=[]:=List.eq_nil_of_length_eq_zero (by simpa using v1);subst hv0;have he:es.take o' ++(news.take 0++es.drop (o' +0))=es:=by simp
        rw [he];have hsame:Bc [(r, .arr g' ei.size es)] h=h:=by
         funext q;simp only [Bc,List.foldl];split
         ·rename_i hq;rw [hq];exact hr.symm
         ·rfl
        rw [hsame];refine .val (hex _ ?_) hh (.v _);cases Ad<;>simp [Builtin.copy_,hat,run_underlying hu,hy,v2,hsz,hmin,v3,storeCells,goInt]
       ·obtain ⟨j1,rfl,cs,ty,j2,j3⟩:=k3 (by omega);obtain ⟨cs2,ty2,a1,a2,a3,a4⟩:=hh.ar r g' ei.size es hr j1;rw [j2] at a1;injection a1 with a1
        injection a1 with a1 a1'
        subst a1 a1';have hzp:es.length*ei.size≤cs.size:=a2;have hoM:(o' +M)*ei.size≤cs.size:=Nat.le_trans (Nat.mul_le_mul_right _ (show o' +M≤es.length by omega)) a2;have hfit:o' *ei.size+vals.length≤cs.size:=by rw [v1,←Nat.add_mul];exact hoM
        have hone:∀v∈vals,v.oneCell' =true:=fun v hv=>by
         obtain ⟨m,hm,rfl⟩:=List.mem_iff_getElem.1 hv;by_cases h0:ei.size=0
         ·rw [v1,h0] at hm;simp at hm
         ·have hz0:0<ei.size:=by omega
          have hi:m / ei.size<M:=by rw [Nat.div_lt_iff_lt_mul hz0];omega
          have he:news[m / ei.size]? =some (news[m / ei.size]'(by omega)):=List.getElem?_eq_getElem (by omega);have hcl:=v4 _ _ he;have hj:m % ei.size<(news[m / ei.size]'(by omega)).cs.length:=by rw [hcl];exact Nat.mod_lt _ hz0
          obtain ⟨y,hy',hrel⟩:=v5 _ _ _ _ hi he (List.getElem?_eq_getElem hj);rw [Nat.div_add_mod' m ei.size,List.getElem?_eq_getElem hm] at hy';injection hy' with hy'
          rw [hy'];exact hrel.oneCell (q5 _ (List.getElem_mem (by omega)) _ (List.getElem_mem hj))
        have hst:=run_storeCells_at P (c.bl r) (o' *ei.size) ty vals 0 cs c.w j2 (by simpa using hfit) hone;simp only [Nat.add_zero] at hst;generalize hcs' :(cs.toList.take (o' *ei.size)++vals++cs.toList.drop (o' *ei.size+vals.length)).toArray=cs' at hst;have htl:cs.toList.length=cs.size:=by simp
        have hszc:cs'.size=cs.size:=by rw [←hcs'];simp;omega
        have hget:∀m:Nat,cs'[m]? =(cs.toList.take (o' *ei.size)++vals++cs.toList.drop (o' *ei.size+vals.length))[m]? :=fun m=>by rw [←hcs',List.getElem?_toArray]
        have hgt:∀m:Nat,cs[m]? =cs.toList[m]? :=fun m=>by simp
        obtain ⟨w1,w2,w3,w4,w5,w6⟩:=HG (cs' :=cs') j2;have hlen:(es.take o' ++(news.take M++es.drop (o' +M))).length=es.length:=by simp;omega
        have key:∀(i:Nat) (e2:AV),(es.take o' ++(news.take M++es.drop (o' +M)))[i]? =some e2→(i<o' ∧es[i]? =some e2)∨(o' ≤i∧i<o' +M∧news[i-o']? =some e2)∨(o' +M≤i∧es[i]? =some e2):=fun i e2 he=>by
         by_cases m1:i<o'
         ·rw [List.getElem?_append_left (by simp;omega),List.getElem?_take,if_pos m1] at he;exact .inl ⟨m1,he⟩
         ·rw [List.getElem?_append_right (by simp;omega)] at he;have ht:(es.take o').length=o' :=by simp;omega
          rw [ht] at he;by_cases m2:i<o' +M
          ·rw [List.getElem?_append_left (by simp;omega),List.getElem?_take,if_pos (by omega)] at he;exact .inr (.inl ⟨by omega,m2,he⟩)
          ·rw [List.getElem?_append_right (by simp;omega),List.getElem?_drop] at he;have ht2:(news.take M).length=M:=by simp;omega
           rw [ht2,show o' +M+(i-o' -M)=i by omega] at he;exact .inr (.inr ⟨by omega,he⟩)
        have hmul:∀i j:Nat,i<j→i*ei.size+ei.size≤j*ei.size:=fun i j hij=>by rw [←Nat.succ_mul];exact Nat.mul_le_mul_right _ hij
        obtain ⟨K,H,e1⟩:=E6 hh (g' :=g') (es' :=es.take o' ++(news.take M++es.drop (o' +M))) (cs' :=cs') hr j1 j2 hszc (Nat.le_refl _) (by rw [hlen,hszc];exact a2)
         (fun i e2 he=>by
          rcases key i e2 he with ⟨_,h1⟩ | ⟨_,_,h1⟩ | ⟨_,h1⟩
          ·exact a3 i e2 h1
          ·exact v4 _ e2 h1
          ·exact a3 i e2 h1)
         (fun i e2 j u he hj=>by
          rcases key i e2 he with ⟨m1,h1⟩ | ⟨m1,m2,h1⟩ | ⟨m1,h1⟩
          ·obtain ⟨y,hy',hv⟩:=a4 i e2 j u h1 hj
           have hlt:j<ei.size:=by rw [←a3 i e2 h1];exact (List.getElem?_eq_some_iff.1 hj).1
           have:=hmul i o' m1
           exact ⟨y,by rw [hget,Fe (by omega) (by omega),←hgt];exact hy',hv⟩
          ·obtain ⟨y,hy',hv⟩:=v5 (i-o') e2 j u (by omega) h1 hj
           have hlt:j<ei.size:=by rw [←v4 _ e2 h1];exact (List.getElem?_eq_some_iff.1 hj).1
           have e0:i*ei.size=o' *ei.size+(i-o')*ei.size:=by rw [←Nat.add_mul];congr 1;omega
           have hvl:=(List.getElem?_eq_some_iff.1 hy').1
           refine ⟨y,?_,hv⟩
           rw [hget,Fq (by omega) (by omega) (by omega),show i*ei.size+j-o' *ei.size=(i-o')*ei.size+j by omega]
           exact hy'
          ·obtain ⟨y,hy',hv⟩:=a4 i e2 j u h1 hj
           have:(o' +M)*ei.size≤i*ei.size:=Nat.mul_le_mul_right _ m1
           rw [Nat.add_mul] at this
           exact ⟨y,by rw [hget,Gb (by omega) (by omega),←hgt];exact hy',hv⟩)
         (c.w.setRow (c.bl r) cs') w1 w2 w3 w4 w5 w6 rfl
        refine ⟨_,_, .inl (hex _ ?_),K,H, .v _⟩;simp [Builtin.copy_,hat,run_underlying hu,hy,v2,hsz,hmin,v3,hst,goInt]
     ·cases hp
    ·cases hp
   ·cases hp
  ·cases hp
 ·cases hp
end
end Go.Proofs.YthblfhgofopcaaaGreat

namespace Go.Proofs.YthblfhgofopcaaaGreat
open Go.RowKit
variable [DM]
def H7 (T:Dj) (g:Operand→AV) (h:HF) (nm:Nat):Call→Rs
 | ⟨.builtin .len,wJ,ts⟩=>match wJ.toList,ts.toList with
  | [a],t::_=>PE h (T t) (g a)
  | _,_=> .bad
 | ⟨.builtin .append,wJ,ts⟩=>match wJ.toList,ts.toList with
  | [a,b],[t,tx]=>FY T h (T t) (T tx) (g a) (g b) nm
  | _,_=> .bad
 | ⟨.builtin .cap,wJ,ts⟩=>match wJ.toList,ts.toList with
  | [a],t::_=>VN (T t) (g a)
  | _,_=> .bad
 | ⟨.builtin .copy,wJ,ts⟩=>match wJ.toList,ts.toList with
  | [a,b],t::_=>JY T h (T t) (g a) (g b)
  | _,_=> .bad
 | ⟨.builtin .min,wJ,_⟩=>match wJ.toList with
  | [a,b]=>V6 (g a) (g b)
  | _=> .bad
 | ⟨.builtin .max,wJ,_⟩=>match wJ.toList with
  | [a,b]=>Xg (g a) (g b)
  | _=> .bad
 | ⟨.value f,wJ,_⟩=>match g f with
  | .clo n l=> .call n (wJ.toList.map g++l)
  | _=> .bad
 | _=> .bad
def Du (T:Dj) (g:Operand→AV) (h:HF) (nm:Nat):Op→Rs
 | .move x=> .pure (g x)
 | .assign x=> .pure (g x)
 | .pick c a b=>Mt (g c) (g a) (g b)
 | .alloc e=>match T e with
  | some i=> .out (i.agg=true∨i.zero.length=1) (.ref nm 0 0 0) [(nm, .arr 0 i.zero.length [Gf i])]
  | none=> .bad
 | .box _ x=> .out (Ce (g x)=true) (.ref nm 0 0 0) [(nm, .arr 0 (g x).cs.length [g x])]
 | .build t ps=>JW T (T t) (ps.toList.map fun y=>(y.1,g y.2))
 | .buildSlice t n ps=>Dq T (T t) n (ps.toList.map fun y=>(y.1,g y.2)) nm
 | .load t a=>match T t with
  | some i=>FA i h (g a)
  | none=> .bad
 | .store t a x=>match T t with
  | some i=>FS i h (g x) (g a)
  | none=> .bad
 | .nilCheck x=>Da h (g x)
 | .binOp op t x y _=>N2 T h op (T t) (g x) (g y)
 | .unOp op _ x=>eF op (g x)
 | .convert s d x=>NO (T s) (T d) (g x)
 | .makeFunc fn first cap=>Es fn (first.toList.map g) (cap.toList.map g)
 | .makeSlice t l cp=>EF T (T t) nm (g l) (g cp)
 | .slice t x lo hi mx=>Fl T h (T t) (g x) (lo.map g) (hi.map g) (mx.map g) nm
 | .fieldAddr s x f=>DZ T h (T s) f (g x)
 | .field s x f=>Eu T (T s) f (g x)
 | .indexAddr t x i=>Db T h (T t) (g x) (g i)
 | .index t x i=>JS T (T t) (g x) (g i)
 | .extract x i=>F6 (g x) i
 | .call cl=>H7 T g h nm cl
 | _=> .bad
def qX (P : Program) (f : Nat) : Prop := ∃ fn cd, P.funcs[f]? = some fn ∧ (fn.name == "runtime.NumGoroutine") = false ∧ fn.body = some cd
section
variable {P:Program} {T:Dj} {c:Cx} {h:HF} {ρ:Operand→Value} {o:Oper} {x:AV} {p:Prop} {us:List (Nat×Ob)} {g:Operand→AV} {nm:Nat}
theorem Wn (hT:CQ P T) (hh:BH c h) (hg:∀X,AS c h (g X) (ρ X)) (hn:h nm= .nil) (hp:Du T g h nm o.op= .out p x us) (hq:p):IL P c h (execOp ρ o) x (Bc us h):=by
 cases ho:o.op<;>rw [ho] at hp<;>simp only [Du] at hp;case move X=>injection hp with h1 h2 h3;subst h2 h3;exact R6 (.inl ho) hh (hg X)
 case assign X=>injection hp with h1 h2 h3;subst h2 h3;exact R6 (.inr ho) hh (hg X)
 case pick C A B=>exact Xp ho hh (hg C) (hg A) (hg B) hp
 case alloc e =>
  split at hp
  ·rename_i i ht;injection hp with h1 h2 h3;subst h1 h2 h3
   exact U9 hT ho ht hh hq hn
  ·cases hp
 case box e X=>injection hp with h1 h2 h3;subst h1 h2 h3;exact Yy ho hh (hg X) hq hn
 case build t ps=>exact VR hg hT ho hh hp hq
 case buildSlice t n ps=>exact Ml hg hT ho hh hn hp hq
 case load t A =>
  split at hp
  ·rename_i i ht;exact Wl hT ho ht hh (hg A) hp hq
  ·cases hp
 case store t A X =>
  split at hp
  ·rename_i i ht;exact Uq hT ho ht hh (hg A) (hg X) hp hq
  ·cases hp
 case nilCheck X=>exact Pq ho hh (hg X) hp hq
 case binOp op t X Y t' =>exact cM hT ho hh (hg X) (hg Y) hp hq
 case unOp op t X=>exact gX ho hh (hg X) hp
 case convert s d X=>exact XL hT ho hh (hg X) hp
 case makeFunc fn first cap=>exact Pu hg ho hh hp
 case makeSlice t L C=>exact N9 hT ho hh (hg L) (hg C) hn hp hq
 case slice t X lo hi mx=>exact VC hg hT ho hh hn hp hq
 case fieldAddr s X f=>exact P8 hT ho hh (hg X) hp hq
 case field s X f=>exact QC hT ho hh (hg X) hp hq
 case indexAddr t X I=>exact QD hT ho hh (hg X) (hg I) hp hq
 case index t X I=>exact Uk hT ho hh (hg X) (hg I) hp hq
 case extract X i=>exact Rx ho hh (hg X) hp hq
 case call cl =>
  obtain ⟨ce,wJ,ts⟩:=cl;unfold H7 at hp;split at hp
  ·rename_i as' ts' heq;injection heq with e1 e2 e3
   subst e1 e2 e3;split at hp
   ·rename_i A t rest ha ht;have has:wJ= #[A]:=by apply Array.toList_inj.1;simpa using ha
    subst has;have hts:ts[0]? =some t:=by rw [←Array.getElem?_toList,ht];rfl
    exact aS hT ho hts hh (hg A) hp hq
   ·cases hp
  ·rename_i as' ts' heq;injection heq with e1 e2 e3
   subst e1 e2 e3;split at hp
   ·rename_i A B t tx ha ht;have has:wJ= #[A,B]:=by apply Array.toList_inj.1;simpa using ha
    have hts:ts= #[t,tx]:=by apply Array.toList_inj.1;simpa using ht
    subst has hts;exact SZ hT ho hh (hg A) (hg B) hn hp hq
   ·cases hp
  ·rename_i as' ts' heq;injection heq with e1 e2 e3
   subst e1 e2 e3;split at hp
   ·rename_i A t rest ha ht;have has:wJ= #[A]:=by apply Array.toList_inj.1;simpa using ha
    subst has;have hts:ts[0]? =some t:=by rw [←Array.getElem?_toList,ht];rfl
    exact aU hT ho hts hh (hg A) hp
   ·cases hp
  ·rename_i as' ts' heq;injection heq with e1 e2 e3
   subst e1 e2 e3;split at hp
   ·rename_i A B t rest ha ht;have has:wJ= #[A,B]:=by apply Array.toList_inj.1;simpa using ha
    subst has;have hts:ts[0]? =some t:=by rw [←Array.getElem?_toList,ht];rfl
    exact Xf hT ho hts hh (hg A) (hg B) hp hq
   ·cases hp
  ·rename_i as' ts' heq;injection heq with e1 e2 e3
   subst e1 e2 e3;split at hp
   ·rename_i A B ha;have has:wJ= #[A,B]:=by apply Array.toList_inj.1;simpa using ha
    subst has;unfold V6 at hp;split at hp
    ·rename_i k a k' b ha hb;injection hp with h1 h2 h3
     subst h1 h2 h3;have hA:=hg A;have hB:=hg B;rw [ha] at hA;rw [hb] at hB;exact .val (by simp [execOp,ho,resolve,invoke,builtin,Builtin.min_,Builtin.min2,As hA,As hB]) hh (.v _)
    ·cases hp
   ·cases hp
  ·rename_i as' ts' heq;injection heq with e1 e2 e3
   subst e1 e2 e3;split at hp
   ·rename_i A B ha;have has:wJ= #[A,B]:=by apply Array.toList_inj.1;simpa using ha
    subst has;unfold Xg at hp;split at hp
    ·rename_i k a k' b ha hb;injection hp with h1 h2 h3
     subst h1 h2 h3;have hA:=hg A;have hB:=hg B;rw [ha] at hA;rw [hb] at hB;exact .val (by simp [execOp,ho,resolve,invoke,builtin,Builtin.max_,Builtin.max2,As hA,As hB]) hh (.v _)
    ·cases hp
   ·cases hp
  ·split at hp<;>cases hp
  ·cases hp
 all_goals cases hp
theorem RE (hg:∀X,AS c h (g X) (ρ X)) {f:Nat} {xs:List AV} (hE:qX P f) (hp:Du T g h nm o.op= .call f xs) :
  ∃vals:Array Value,vals.size=xs.length∧(∀(i:Nat) (u:AV) (v:Value),xs[i]? =some u→vals[i]? =some v→AS c h u v)∧(execOp ρ o).run P c.w= .ok (.enter f vals) c.w:=by
 have notc:∀(r:Rs),(∀n l,r≠ .call n l)→r= .call f xs→False:=fun r h1 h2=>h1 f xs h2
 have nc:∀i sz e j n l,Fv i sz e j≠ .call n l:=fun i sz e j n l=>by
  unfold Fv;(repeat' split)<;>simp
 cases ho:o.op<;>rw [ho] at hp<;>simp only [Du] at hp;case call cl =>
  obtain ⟨ce,wJ,ts⟩:=cl;unfold H7 at hp;split at hp
  ·split at hp
   ·unfold PE at hp;exfalso;revert hp;(repeat' split)<;>simp [Rs.pure]
   ·cases hp
  ·split at hp
   ·unfold FY at hp;exfalso;revert hp;(repeat' split)<;>simp
   ·cases hp
  ·split at hp
   ·unfold VN at hp;exfalso;revert hp;(repeat' split)<;>simp [Rs.pure]
   ·cases hp
  ·split at hp
   ·unfold JY at hp;exfalso;revert hp;(repeat' split)<;>simp
   ·cases hp
  ·split at hp
   ·unfold V6 at hp;exfalso;revert hp;(repeat' split)<;>simp [Rs.pure]
   ·cases hp
  ·split at hp
   ·unfold Xg at hp;exfalso;revert hp;(repeat' split)<;>simp [Rs.pure]
   ·cases hp
  ·rename_i F as' ts' heq;injection heq with e1 e2 e3
   subst e1 e2 e3;split at hp
   ·rename_i n l hF;injection hp with h1 h2
    subst h1 h2;have hf:=hg F;rw [hF] at hf;generalize hy:ρ F=y at hf;cases hf with
    | clo _ _ ys hl hi =>
     refine ⟨wJ.map ρ++ys,by simp [hl],fun i u v hu hv=> ?_,?_⟩
     ·by_cases hlt:i<wJ.size
      ·rw [List.getElem?_append_left (by simpa using hlt)] at hu;rw [Array.getElem?_append_left (by simpa using hlt)] at hv;simp only [List.getElem?_map,Option.map_eq_some_iff] at hu;simp only [Array.getElem?_map,Option.map_eq_some_iff] at hv;obtain ⟨X,h1,rfl⟩:=hu;obtain ⟨Y,h2,rfl⟩:=hv;rw [←Array.getElem?_toList,h1] at h2;injection h2 with h2
       subst h2;exact hg X
      ·rw [List.getElem?_append_right (by simp;omega)] at hu;rw [Array.getElem?_append_right (by simp;omega)] at hv;simp only [List.length_map,Array.length_toList,Array.size_map] at hu hv;exact hi _ u v hu hv
     ·obtain ⟨fn,cd,e1,e2,e3⟩:=hE;have e4 : fn.name ≠ "runtime.NumGoroutine" := by simpa using e2
      simp [execOp,ho,resolve,Deferred.ofValue,invoke,hy,callFunc,e1,e3,e4]
   ·cases hp
  ·cases hp
 all_goals
  exfalso;revert hp;first
   | (simp [Rs.pure];done)
   | (unfold Mt;(repeat' split)<;>simp [Rs.pure];done)
   | ((repeat' split)<;>simp;done)
   | (unfold JW;(repeat' split)<;>simp;done)
   | (unfold Dq;(repeat' split)<;>simp;done)
   | (unfold FS;(repeat' split)<;>simp;done)
   | (split<;>(try unfold FS)<;>(repeat' split)<;>simp;done)
   | (unfold Da;(repeat' split)<;>simp [Rs.pure];done)
   | (unfold eF;(repeat' split)<;>simp [Rs.pure];done)
   | (unfold NO;(repeat' split)<;>simp;done)
   | (unfold Es;(repeat' split)<;>simp [Rs.pure];done)
   | (unfold EF;(repeat' split)<;>simp;done)
   | (unfold Fl;(repeat' split)<;>simp;done)
   | (unfold DZ;(repeat' split)<;>simp;done)
   | (unfold Eu;(repeat' split)<;>simp;done)
   | (unfold JS;(repeat' split)<;>simp;done)
   | (unfold Db;(repeat' split)<;>simp;done)
   | (unfold F6;(repeat' split)<;>simp;done)
   | (unfold N2 U7;(repeat' split)<;>simp [Rs.pure];done)
   | (split
      ·unfold FA
       (repeat' split)<;>(try simp;done)<;>(rename_i hq;intro hp;cases hpp:Fv _ _ _ _<;>rw [hpp] at hp<;>first | exact nc _ _ _ _ _ _ hpp | cases hp)
      ·simp)
end
end Go.Proofs.YthblfhgofopcaaaGreat
