/-
  Parts of the proof: VmH, VmI, VmJ.
-/
import Derived.Test.YthblfhgofopcaaaGreatSH03
import Derived.Deep.Upon
set_option linter.all false
namespace Go.Proofs.YthblfhgofopcaaaGreat
open Go.RowKit
variable [DM]
def FV (h:HF) (sz:Nat):AV→Option (Prop×List AV)
 | .v (.slice none 0 0)=>some (True,[])
 | .v (.slice (some _) 0 _)=>some (True,[])
 | .sl _ s es=>some (s=sz,es)
 | .rsl r g o n=>match h r with
  | .arr g' s es=>some (g' =g∧s=sz∧o+n≤es.length,(es.drop o).take n)
  | _=>none
 | _=>none
def FY (T:Dj) (h:HF) (t tx:Option TI) (a b:AV) (nm:Nat):Rs:=match t,tx with
 | some ⟨_,_,_,_, .slice e⟩,some ⟨_,_,_,_, .slice _⟩=>match T e with
  | some ei=>match FV h ei.size b with
   | some (q,news)=>match a with
    | .v (.slice none 0 0)=> .out (q∧0<ei.size∧(∀u∈news,∀v∈u.cs,v.one=true)∧news.length≤1000000000000∧ei.bytes≤100) (.rsl nm 0 0 news.length) [(nm, .arr 0 ei.size news)]
    | .rsl r g o n=>match h r with
     | .arr g' sz es=> .out (q∧0<ei.size∧(∀u∈news,∀v∈u.cs,v.one=true)∧n+news.length≤1000000000000∧ei.bytes≤100∧g' =g∧o=0∧sz=ei.size∧n≤es.length) (.rsl r (g+1) 0 (n+news.length)) [(r, .arr (g+1) sz (es.take n++news))]
     | _=> .bad
    | _=> .bad
   | none=> .bad
  | none=> .bad
 | _,_=> .bad
section
variable {P:Program} {T:Dj} {c:Cx} {h:HF} {ρ:Operand→Value} {o:Oper} {x:AV} {p:Prop} {us:List (Nat×Ob)}
theorem Fs {X:Option Operand} {g:Operand→AV} (hg:∀X,AS c h (g X) (ρ X)) {d l:Int} (hl:Et (X.map g) d=some l):(X=none∧l=d)∨∃k Y,X=some Y∧ρ Y= .int k l:=by
 cases X with
 | none=>simp [Et] at hl;exact .inl ⟨rfl,hl.symm⟩
 | some Y =>
  refine .inr ?_;have hY:=hg Y;have hl' :Et (some (g Y)) d=some l:=hl;clear hl;generalize g Y=z at hl' hY;cases z with
  | v w =>
   have hY:=As hY;cases w with
   | int k n =>
    simp only [Et] at hl';injection hl' with hl'
    subst hl';exact ⟨k,Y,rfl,hY⟩
   | _=>simp [Et] at hl'
  | _=>simp [Et] at hl'
theorem It (hT:CQ P T) {t e:Nat} {i ei:TI} (ht:T t=some i) (hk:i.k= .slice e) (hte:T e=some ei) {lo hi:Option Operand} {l m:Int} {A:Option Addr} {n cap:Nat} {X:Operand} (hX:ρ X= .slice A n cap)
  (hlo:(lo=none∧l=0)∨∃k Y,lo=some Y∧ρ Y= .int k l) (hhi:(hi=none∧m=(n:Int))∨∃k Y,hi=some Y∧ρ Y= .int k m) (h0:0≤l) (h1:l≤m) (h2:m≤(n:Int)) (h3:n≤cap) (ho:o.op= .slice t X lo hi none) :
  (execOp ρ o).run P c.w= .ok (.value (.slice (if cap=l.toNat then A else A.map (·.add (l.toNat*ei.size))) (m-l).toNat (cap-l.toNat))) c.w:=by
 have hu:=DG hT ht hk;have hsz:=Dr hT hte c.w;have hmn:m.toNat-l.toNat=(m-l).toNat:=by omega
 have hmm:(m.toNat:Int)=m:=by omega
 rcases hlo with ⟨rfl,rfl⟩ | ⟨kl,L,rfl,hL⟩<;>rcases hhi with ⟨rfl,rfl⟩ | ⟨km,M,rfl,hM⟩
 ·simp [execOp,ho,hX,Instr.sliceAt,Instr.slice,run_underlying hu,Instr.sliceBounds,hsz]
 ·simp [execOp,ho,hX,hM,Instr.sliceAt,Instr.slice,run_underlying hu,Instr.sliceBounds,Instr.sliceBound,asIntOf,hsz,show 0≤m by omega,show m≤(cap:Int) by omega]
 ·simp [execOp,ho,hX,hL,Instr.sliceAt,Instr.slice,run_underlying hu,Instr.sliceBounds,Instr.sliceBound,asIntOf,hsz,h0,h1];omega
 ·simp [execOp,ho,hX,hL,hM,Instr.sliceAt,Instr.slice,run_underlying hu,Instr.sliceBounds,Instr.sliceBound,asIntOf,hsz,h0,h1,hmm,hmn,show 0≤m by omega,show m≤(cap:Int) by omega]
theorem VC {t nm:Nat} {X:Operand} {lo hi mx:Option Operand} {g:Operand→AV} (hg:∀X,AS c h (g X) (ρ X)) (hT:CQ P T) (ho:o.op= .slice t X lo hi mx) (hh:BH c h) (hn:h nm= .nil)
  (hp:Fl T h (T t) (g X) (lo.map g) (hi.map g) (mx.map g) nm= .out p x us) (hq:p):IL P c h (execOp ρ o) x (Bc us h):=by
 have ha:=hg X;unfold Fl at hp;split at hp
 ·rename_i e ht;have hu:=DG hT ht rfl;split at hp
  ·rename_i ei hte;have hsz:=Dr hT hte c.w;split at hp
   ·rename_i l hl;have hlo:=Fs hg hl;split at hp
    ·rename_i hmx;have hmx' :mx=none:=by cases mx<;>simp_all
     subst hmx';split at hp
     ·rename_i f sz es hx;split at hp
      ·rename_i m hm;have hhi:=Fs hg hm;injection hp with h1 h2 h3
       subst h1 h2 h3;obtain ⟨rfl,q1,q2,q3⟩:=hq;rw [hx] at ha;generalize hy:ρ X=y at *;cases ha with
       | slE _ _ A cap hc =>
        simp at q3;have e1:l=0:=by omega
        have e2:m=0:=by omega
        subst e1 e2;refine .val (It hT ht rfl hte hy hlo hhi (by omega) (by omega) (by simp) (by omega) ho) hh ?_;simp;exact .slE _ _ _ _ hc
       | sl _ _ _ b o' cap ys k1 k2 k3 k4 k5 k6 =>
        refine .val (It hT ht rfl hte hy hlo hhi q1 q2 q3 k1 ho) hh ?_;have hlen:((es.drop l.toNat).take (m-l).toNat).length=(m-l).toNat:=by simp;omega
        by_cases h0:(m-l).toNat=0
        ·rw [h0];simp;exact .slE _ _ _ _ (by omega)
        ·rw [if_neg (by omega)];have key:∀(i:Nat) (e:AV),((es.drop l.toNat).take (m-l).toNat)[i]? =some e→es[l.toNat+i]? =some e:=fun i e he=>by
          rw [List.getElem?_take] at he;split at he
          ·rwa [List.getElem?_drop] at he
          ·cases he
         have:=AS.sl (c:=c) (h:=h) f ei.size ((es.drop l.toNat).take (m-l).toNat) b (o' +l.toNat*ei.size) (cap-l.toNat) (fun i j=>ys (l.toNat+i) j) (by omega) (by omega) k3 (fun i e he=>k4 _ e (key i e he))
          (fun i e j u he hj=>by
           rw [show o' +l.toNat*ei.size+i*ei.size+j=o' +(l.toNat+i)*ei.size+j by rw [Nat.add_mul];omega]
           exact k5 _ e j u (key i e he) hj)
          (fun i e j u he hj=>k6 _ e j u (key i e he) hj)
         rw [hlen] at this;simpa [Addr.add_lit] using this
      ·cases hp
     ·rename_i r g' o' n hx;split at hp
      ·rename_i m hm;have hhi:=Fs hg hm;split at hp
       ·rename_i g2 sz es hr;injection hp with h1 h2 h3
        subst h1 h2 h3;obtain ⟨rfl,rfl,q1,q2,q3⟩:=hq;rw [hx] at ha;cases ha with
        | rsl _ _ _ _ _ hone hgd =>
         rw [hr] at hgd;obtain ⟨A,cap,hy,k1,k2,k3⟩:=hgd.2 rfl;refine .val (It hT ht rfl hte hy hlo hhi q1 q2 q3 k1 ho) hh (.rsl _ _ _ _ _ rfl ?_);rw [hr];refine ⟨Nat.le_refl _,fun _=>⟨_,_,rfl,by omega,by omega,fun h0=> ?_⟩⟩;have hc0:0<cap:=by omega
         have e5:o' +l.toNat+(cap-l.toNat)=o' +cap:=by omega
         obtain ⟨j1,rfl,cs,ty,j2,j3⟩:=k3 hc0;refine ⟨j1,?_,cs,ty,j2,?_⟩
         ·rw [if_neg (by omega)];simp [Addr.add_lit,Nat.add_mul]
         ·rw [e5];exact j3
       ·cases hp
      ·cases hp
     ·rename_i hx;split at hp
      ·rename_i m hm;have hhi:=Fs hg hm;injection hp with h1 h2 h3
       subst h1 h2 h3;obtain ⟨rfl,rfl⟩:=hq;rw [hx] at ha;refine .val (It hT ht rfl hte (As ha) hlo hhi (by omega) (by omega) (by simp) (by omega) ho) hh ?_;exact .v _
      ·cases hp
     ·cases hp
    ·rename_i mv hmx;have hv:∀(A:Option Addr) (n cap:Nat) (q:Int),l=0→(∃k Y,mx=some Y∧ρ Y= .int k q)→q=0→Et (hi.map g) 0=some 0→(hi.map g).isSome=true→ρ X= .slice A n cap→IL P c h (execOp ρ o) (.rsl nm 0 0 0) (Bc [(nm, .arr 0 ei.size [])] h):=fun A n cap q e1 e2 e3 e4 e5 e6=>by
      subst e1 e3;obtain ⟨k,Y,rfl,hY⟩:=e2;rcases Fs hg e4 with ⟨e7,_⟩ | ⟨k2,Z,rfl,hZ⟩
      ·rw [e7] at e5;cases e5
      refine LO hh hn ei.size (A:=A) ?_;rcases hlo with ⟨rfl,_⟩ | ⟨k3,L,rfl,hL⟩
      ·simp [execOp,ho,e6,hY,hZ,Instr.sliceAt,Instr.slice,run_underlying hu,Instr.sliceBounds,Instr.sliceBound,asIntOf,hsz]
      ·simp [execOp,ho,e6,hY,hZ,hL,Instr.sliceAt,Instr.slice,run_underlying hu,Instr.sliceBounds,Instr.sliceBound,asIntOf,hsz]
     split at hp
     ·rename_i kq q m hm;have hmx' :∃k Y,mx=some Y∧ρ Y= .int k q:=by
       cases mx with
       | none=>cases hmx
       | some Y =>
        injection hmx with hmx
        have:=hg Y;rw [hmx] at this;exact ⟨kq,Y,rfl,As this⟩
      split at hp
      ·rename_i hx;injection hp with h1 h2 h3
       subst h1 h2 h3;obtain ⟨q1,rfl,q3,q4⟩:=hq;rw [hx] at ha;generalize hy:ρ X=y at *;cases ha<;>exact hv _ _ _ q q1 hmx' q3 hm q4 rfl
      ·rename_i r g' o' n hx;split at hp
       ·rename_i g2 sz es hr;injection hp with h1 h2 h3
        subst h1 h2 h3;obtain ⟨rfl,q1,rfl,q3,q4⟩:=hq;rw [hx] at ha;cases ha with
        | rsl _ _ _ _ _ _ hgd =>
         rw [hr] at hgd;obtain ⟨A,cap,hy,_⟩:=hgd.2 rfl;exact hv _ _ _ q q1 hmx' q3 hm q4 hy
       ·cases hp
      ·rename_i hx;injection hp with h1 h2 h3
       subst h1 h2 h3;obtain ⟨q1,rfl,q3,q4⟩:=hq;rw [hx] at ha;exact hv _ _ _ q q1 hmx' q3 hm q4 (As ha)
      ·cases hp
     ·cases hp
   ·cases hp
  ·cases hp
 ·cases hp
theorem VL {news:List AV} {sz:Nat} {vals:List Value} (h1:∀u∈news,∀v∈u.cs,v.one=true) (hl:vals.length=news.length*sz) (hs:∀(i:Nat) (e:AV),news[i]? =some e→e.cs.length=sz)
  (hr:∀(i:Nat) (e:AV) (j:Nat) (u:AV),news[i]? =some e→e.cs[j]? =some u→∃y,vals[i*sz+j]? =some y∧AS c h u y):∀v∈vals,v.oneCell' =true:=fun v hv=>by
 obtain ⟨m,hm,rfl⟩:=List.mem_iff_getElem.1 hv;by_cases h0:sz=0
 ·subst h0;simp [hl] at hm
 have hi:m / sz<news.length:=by rw [Nat.div_lt_iff_lt_mul (by omega)];omega
 have hj:m % sz<sz:=Nat.mod_lt _ (by omega);have he:news[m / sz]? =some news[m / sz]:=List.getElem?_eq_getElem hi;have hcl:=hs _ _ he;have hu:news[m / sz].cs[m % sz]? =some (news[m / sz].cs[m % sz]'(by omega)):=List.getElem?_eq_getElem _;obtain ⟨y,hy,hrel⟩:=hr _ _ _ _ he hu;have e1:m / sz*sz+m % sz=m:=Nat.div_add_mod' m sz;rw [e1] at hy;have:vals[m]=y:=by
  rw [List.getElem?_eq_getElem hm] at hy;injection hy
 rw [this];exact hrel.oneCell (h1 _ (List.getElem_mem hi) _ (List.getElem_mem _))
def Px (P:Program) (c:Cx) (h:HF) (sz:Nat) (y:Value) (news:List AV):Prop :=
 ∃vals:List Value,vals.length=news.length*sz∧(∀w' :World,(Builtin.lenOf y).run P w' = .ok news.length w')∧(Builtin.firstCells sz news.length y).run P c.w= .ok vals.toArray c.w∧(Builtin.firstCells sz news.length y).run P c.w.drew= .ok vals.toArray c.w.drew∧
  (∀(i:Nat) (e:AV),news[i]? =some e→e.cs.length=sz)∧∀(i:Nat) (e:AV) (j:Nat) (u:AV),news[i]? =some e→e.cs[j]? =some u→∃y,vals[i*sz+j]? =some y∧AS c h u y
theorem JV {sz:Nat} (hh:BH c h) {b:AV} {y:Value} (hb:AS c h b y) {q:Prop} {news:List AV} (hr:FV h sz b=some (q,news)) (hq:q) :
  Px P c h sz y news:=by
 have mk:∀(B o cap:Nat) (F:Nat→Nat→Value),(∀(i:Nat) (e:AV),news[i]? =some e→e.cs.length=sz)→
   (∀(i:Nat) (e:AV) (j:Nat) (u:AV),news[i]? =some e→e.cs[j]? =some u→c.w.cell? ⟨B,o+i*sz+j,none⟩=some (F i j))→
   (∀(i:Nat) (e:AV) (j:Nat) (u:AV),news[i]? =some e→e.cs[j]? =some u→AS c h u (F i j))→y= .slice (some ⟨B,o,none⟩) news.length cap→
   Px P c h sz y news:=fun B o cap F hs hc hv hy=>by
  let vals:=(List.range (news.length*sz)).map fun m=>F (m / sz) (m % sz)
  have hvl:vals.length=news.length*sz:=by simp [vals]
  have hat:∀(i:Nat) (e:AV) (j:Nat) (u:AV),news[i]? =some e→e.cs[j]? =some u→vals[i*sz+j]? =some (F i j):=fun i e j u he hj=>by
   have hi:=(List.getElem?_eq_some_iff.1 he).1;have hlt:j<sz:=by rw [←hs i e he];exact (List.getElem?_eq_some_iff.1 hj).1
   have hks:i*sz+sz≤news.length*sz:=by rw [←Nat.succ_mul];exact Nat.mul_le_mul_right _ hi
   simp only [vals,List.getElem?_map];rw [List.getElem?_range (by omega)];simp only [Option.map_some];rw [Nat.add_comm,Nat.add_mul_div_right _ _ (by omega),Nat.add_mul_mod_self_right,Nat.mod_eq_of_lt hlt,Nat.div_eq_of_lt hlt,Nat.zero_add]
  have hR:∀(i:Nat) (e:AV) (j:Nat) (u:AV),news[i]? =some e→e.cs[j]? =some u→∃y,vals[i*sz+j]? =some y∧AS c h u y:=fun i e j u he hj=>⟨_,hat i e j u he hj,hv i e j u he hj⟩
  subst hy;have hcell:∀(m:Nat) (v:Value),vals[m]? =some v→c.w.cell? ((⟨B,o,none⟩:Addr).add m)=some v:=fun m v hm=>by
   have hml:=(List.getElem?_eq_some_iff.1 hm).1;have hz0:0<sz:=by
    rcases Nat.eq_zero_or_pos sz with h0 | h0
    ·rw [hvl,h0] at hml;simp at hml
    ·exact h0
   have hi:m / sz<news.length:=by rw [Nat.div_lt_iff_lt_mul hz0];omega
   have he:news[m / sz]? =some news[m / sz]:=List.getElem?_eq_getElem hi;have hcl:=hs _ _ he;have hj:m % sz<news[m / sz].cs.length:=by rw [hcl];exact Nat.mod_lt _ hz0
   have hu:news[m / sz].cs[m % sz]? =some (news[m / sz].cs[m % sz]'hj):=List.getElem?_eq_getElem hj;have e1:m / sz*sz+m % sz=m:=Nat.div_add_mod' m sz;have h3:=hat _ _ _ _ he hu;rw [e1,hm] at h3;injection h3 with h3
   have h4:=hc _ _ _ _ he hu;rw [Addr.add_lit];rw [show o+m / sz*sz+m % sz=o+m by omega] at h4;rw [h4,h3]
  exact ⟨vals,hvl,fun _=>rfl,run_firstCells_some c.w sz news.length ⟨B,o,none⟩ news.length cap vals hvl hcell,run_firstCells_some c.w.drew sz news.length ⟨B,o,none⟩ news.length cap vals hvl (by simpa using hcell),hs,hR⟩
 have em:news=[]→(∃A cap,y= .slice A 0 cap)→Px P c h sz y news:=fun hn hy=>by
  subst hn;obtain ⟨A,cap,rfl⟩:=hy;refine ⟨[],by simp,fun _=>rfl,?_,?_,fun i e he=>by simp at he,fun i e j u he=>by simp at he⟩<;>cases A<;>simp [Builtin.firstCells,loadCells,loadCellsFrom]
 unfold FV at hr;split at hr
 ·injection hr with hr
  injection hr with h2 h3
  exact em h3.symm ⟨none,0,As hb⟩
 ·injection hr with hr
  injection hr with h2 h3
  exact em h3.symm ⟨_,_,As hb⟩
 ·rename_i f s es;injection hr with hr
  injection hr with h2 h3
  subst h2 h3;subst hq;cases hb with
  | slE _ _ A cap _=>exact em rfl ⟨A,cap,rfl⟩
  | sl _ _ _ B o cap ys k1 k2 k3 k4 k5 k6=>exact mk B o cap ys k4 k5 k6 rfl
 ·rename_i r g o n;split at hr
  ·rename_i g' s es hro;injection hr with hr
   injection hr with h2 h3
   subst h2 h3;obtain ⟨rfl,rfl,hle⟩:=hq;cases hb with
   | rsl _ _ _ _ _ _ hgd =>
    rw [hro] at hgd;obtain ⟨A,cap,hy,k1,k2,k3⟩:=hgd.2 rfl;have hlen:((es.drop o).take n).length=n:=by simp;omega
    by_cases h0:n=0
    ·subst h0;exact em (by simp) ⟨A,cap,hy⟩
    ·obtain ⟨j1,rfl,_⟩:=k3 (by omega);obtain ⟨cs,ty,a1,a2,a3,a4⟩:=hh.ar r g' s es hro j1;have key:∀(i:Nat) (e:AV),((es.drop o).take n)[i]? =some e→es[o+i]? =some e:=fun i e he=>by
      rw [List.getElem?_take] at he;split at he
      ·rwa [List.getElem?_drop] at he
      ·cases he
     refine mk (c.bl r) (o*s) cap (fun i j=>cs[(o+i)*s+j]?.getD undef) (fun i e he=>a3 _ e (key i e he)) (fun i e j u he hj=> ?_) (fun i e j u he hj=> ?_) (by rw [hlen];exact hy)
     ·obtain ⟨v,hv,_⟩:=a4 _ e j u (key i e he) hj;rw [cell_of_row c.w _ _ cs ty (0,0) a1,show o*s+i*s+j=(o+i)*s+j by rw [Nat.add_mul],hv];rfl
     ·obtain ⟨v,hv,hrel⟩:=a4 _ e j u (key i e he) hj;show AS c h u (cs[(o+i)*s+j]?.getD undef);rw [hv];exact hrel
  ·cases hr
 ·cases hr
theorem R4 {tx e' sz:Nat} (hk:P.underlying tx=some (.slice e')) {y:Value} {news:List AV} (hr:Px P c h sz y news) (h1:∀u∈news,∀v∈u.cs,v.one=true) :
  ∃vals:List Value,Src P sz tx y news.length vals c.w∧(∀(i:Nat) (e:AV),news[i]? =some e→e.cs.length=sz)∧
   ∀(i:Nat) (e:AV) (j:Nat) (u:AV),news[i]? =some e→e.cs[j]? =some u→∃y,vals[i*sz+j]? =some y∧AS c h u y:=by
 obtain ⟨vals,a1,a2,a3,a4,a5,a6⟩:=hr;exact ⟨vals,⟨.inl ⟨e',hk⟩,a2,a3,a4,a1,VL h1 a1 a5 a6⟩,a5,a6⟩
end
end Go.Proofs.YthblfhgofopcaaaGreat

namespace Go.Proofs.YthblfhgofopcaaaGreat
open Go.RowKit
variable [DM]
section
variable {P:Program} {T:Dj} {c:Cx} {h:HF} {ρ:Operand→Value} {o:Oper} {x:AV} {p:Prop} {us:List (Nat×Ob)}
theorem YW (hh:BH c h) {r g g' sz:Nat} {es es' :List AV} (hr:h r= .arr g sz es) (hg:g≤g') (hl:es'.length≤es.length) (hs:∀(i:Nat) (e:AV),es'[i]? =some e→es[i]? =some e) :
  Bj c h c (Bc [(r, .arr g' sz es')] h)∧BH c (Bc [(r, .arr g' sz es')] h):=by
 cases hrl:c.rl r with
 | true =>
  obtain ⟨cs,ty,a1,a2,a3,a4⟩:=hh.ar r g sz es hr hrl;obtain ⟨K,H,_⟩:=E6 hh (g' :=g') (es' :=es') hr hrl a1 rfl hg (Nat.le_trans (Nat.mul_le_mul_right _ hl) a2) (fun i e he=>a3 i e (hs i e he)) (fun i e j u he hj=>a4 i e j u (hs i e he) hj) c.w (fun _ _=>rfl) a1 rfl rfl rfl rfl rfl;exact ⟨K,H⟩
 | false =>
  have he:=hh.em r g sz es hr hrl;subst he;have he' :es' =[]:=List.eq_nil_of_length_eq_zero (by simpa using hl);subst he';have e1:Bc [(r, .arr g' sz [])] h r= .arr g' sz []:=by simp [Bc]
  have e2:∀q,q≠r→Bc [(r, .arr g' sz [])] h q=h q:=fun q hq=>by simp [Bc,hq]
  have K:Bj c h c (Bc [(r, .arr g' sz [])] h):={
   dr:= .inr (Nat.le_refl _)
   os:=rfl
   tape:=rfl
   output:=rfl
   size:=Nat.le_refl _
   blk:=fun _ _ _=>rfl
   dd:=fun q hq=>by
    have:q≠r:=fun he=>by rw [he,hr] at hq;cases hq
    rw [e2 q this];exact hq
   ar:=fun q g1 s1 es1 hq=>by
    by_cases he:q=r
    ·subst he
     rw [hr] at hq;injection hq with q1 q2 q3
     subst q1 q2 q3
     exact .inr ⟨g',[],e1,hg,fun _=>⟨rfl,rfl,fun _ cs1 t1 h5=>⟨cs1,h5,rfl⟩⟩⟩
    ·exact .inr ⟨g1,es1,by rw [e2 q he];exact hq,Nat.le_refl _,fun _=>⟨rfl,rfl,fun _ cs1 t1 h6=>⟨cs1,h6,rfl⟩⟩⟩
   fr:=fun q g1 s1 es1 hq h5=>by
    by_cases he:q=r
    ·subst he;rw [hrl] at h5;cases h5
    ·exact .inr ⟨g1,es1,by rw [←e2 q he];exact hq,h5,rfl⟩
   okT:=rfl
   okF:=rfl
   n0:=rfl }
  refine ⟨K,⟨fun q g1 s1 es1 hq h5=> ?_,fun q g1 s1 es1 hq h5=> ?_,fun q q' g1 g2 s1 s2 es1 es2 hq hq' h5 h6 hb=> ?_⟩⟩
  ·by_cases he:q=r
   ·subst he;rw [hrl] at h5;cases h5
   ·rw [e2 q he] at hq;obtain ⟨cs,t,h1,h2,h3,h4⟩:=hh.ar q g1 s1 es1 hq h5;exact ⟨cs,t,h1,h2,h3,fun i e j x he hj=>by
     obtain ⟨y,hy,hv⟩:=h4 i e j x he hj
     exact ⟨y,hy,hv.ext K.ext⟩⟩
  ·by_cases he:q=r
   ·subst he;rw [e1] at hq;injection hq with _ _ q3;exact q3.symm
   ·rw [e2 q he] at hq;exact hh.em q g1 s1 es1 hq h5
  ·by_cases he:q=r
   ·subst he;rw [hrl] at h5;cases h5
   by_cases he' :q' =r
   ·subst he';rw [hrl] at h6;cases h6
   rw [e2 q he] at hq;rw [e2 q' he'] at hq';exact hh.inj q q' g1 g2 s1 s2 es1 es2 hq hq' h5 h6 hb
theorem dW (hh:BH c h) {nm g0 g' sz:Nat} {es0:List AV} (hn:h nm= .arr g0 sz es0) (hg:g0<g') (es:List AV) (cells:Array Value) (ty:Nat) (hl:es.length*sz≤cells.size) (hz:∀(i:Nat) (e:AV),es[i]? =some e→e.cs.length=sz)
  (hc:∀(i:Nat) (e:AV) (j:Nat) (x:AV),es[i]? =some e→e.cs[j]? =some x→∃y,cells[i*sz+j]? =some y∧AS c h x y) :
  let c' :Cx:={ c with w:=c.w.alloc (.cells cells ty),bl:=fun r=>if r=nm then c.w.heap.size else c.bl r,rl:=fun r=>if r=nm then true else c.rl r }
  let h' :HF:=Bc [(nm, .arr g' sz es)] h
  Bj c h c' h' ∧BH c' h' ∧h' nm= .arr g' sz es:=by
 intro c' h';have e1:h' nm= .arr g' sz es:=by simp [h',Bc]
 have e2:∀r,r≠nm→h' r=h r:=fun r hr=>by simp [h',Bc,hr]
 have b1:c'.bl nm=c.w.heap.size:=by simp [c']
 have b2:∀r,r≠nm→c'.bl r=c.bl r:=fun r hr=>by simp [c',hr]
 have r1:c'.rl nm=true:=by simp [c']
 have r2:∀r,r≠nm→c'.rl r=c.rl r:=fun r hr=>by simp [c',hr]
 have g:Aw c.w c'.w:=(Aw.refl _).alloc _;have K:Bj c h c' h' :={
  dr:= .inr (Nat.le_refl _)
  os:=g.os
  tape:=g.tape
  output:=g.output
  size:=g.size
  blk:=fun b hb _=>g.blk hb
  dd:=fun r hr=>by
   have:r≠nm:=fun he=>by rw [he,hn] at hr;cases hr
   rw [e2 r this];exact hr
  ar:=fun r g1 s1 es1 hr=>by
   by_cases hq:r=nm
   ·subst hq
    rw [hn] at hr;injection hr with q1 q2 q3
    subst q1 q2 q3
    exact .inr ⟨g',es,e1,Nat.le_of_lt hg,fun he=>absurd he (Nat.ne_of_lt hg)⟩
   ·exact .inr ⟨g1,es1,by rw [e2 r hq];exact hr,Nat.le_refl _,fun _=>⟨b2 r hq,r2 r hq,fun _ cs t hcs=>⟨cs,g.blk_some hcs,rfl⟩⟩⟩
  fr:=fun r g1 s1 es1 hr hl=>by
   by_cases hq:r=nm
   ·subst hq;exact .inl (by rw [b1];exact Nat.le_refl _)
   ·exact .inr ⟨g1,es1,by rw [←e2 r hq];exact hr,by rw [←r2 r hq];exact hl,b2 r hq⟩
  okT:=rfl
  okF:=rfl
  n0:=rfl }
 refine ⟨K,⟨?_,?_,?_⟩,e1⟩
 ·intro r g1 s1 es1 hr hl;by_cases hq:r=nm
  ·subst hq;rw [e1] at hr;injection hr with _ h2 h3
   subst h2 h3;refine ⟨cells,ty,by rw [b1];exact heap_alloc_new c.w _,‹_›,hz,fun i e j x he hj=> ?_⟩;obtain ⟨y,hy,hv⟩:=hc i e j x he hj;exact ⟨y,hy,hv.ext K.ext⟩
  ·rw [e2 r hq] at hr;rw [r2 r hq] at hl;obtain ⟨cs,t,h1,h2,h3,h4⟩:=hh.ar r g1 s1 es1 hr hl;refine ⟨cs,t,by rw [b2 r hq];exact g.blk_some h1,h2,h3,fun i e j x he hj=> ?_⟩;obtain ⟨y,hy,hv⟩:=h4 i e j x he hj;exact ⟨y,hy,hv.ext K.ext⟩
 ·intro r g1 s1 es1 hr hl;by_cases hq:r=nm
  ·subst hq;rw [r1] at hl;cases hl
  ·rw [e2 r hq] at hr;rw [r2 r hq] at hl;exact hh.em r g1 s1 es1 hr hl
 ·intro r r' g1 g2 s1 s2 es1 es2 hr hr' hl hl' hb;have lt:∀q g3 s3 es3,q≠nm→h' q= .arr g3 s3 es3→c'.rl q=true→c'.bl q<c.w.heap.size:=fun q g3 s3 es3 hq h1 h2=>by
   rw [e2 q hq] at h1;rw [r2 q hq] at h2;obtain ⟨cs,t,h3,_⟩:=hh.ar q g3 s3 es3 h1 h2;rw [b2 q hq];exact lt_of_block h3
  by_cases hq:r=nm<;>by_cases hq' :r' =nm
  ·rw [hq,hq']
  ·have:=lt r' g2 s2 es2 hq' hr' hl';rw [hq,b1] at hb;omega
  ·have:=lt r g1 s1 es1 hq hr hl;rw [hq',b1] at hb;omega
  ·rw [e2 r hq] at hr;rw [e2 r' hq'] at hr';rw [r2 r hq] at hl;rw [r2 r' hq'] at hl';rw [b2 r hq,b2 r' hq'] at hb;exact hh.inj r r' g1 g2 s1 s2 es1 es2 hr hr' hl hl' hb
theorem BH.keep_drew {c:Cx} {h:HF} (k:BH c h):BH { c with w:=c.w.drew } h:=k.keep_grow ((Aw.refl _).drew) (.inr (Nat.le_succ _))
theorem K6 (w:World) (need old e:Nat) (hn:need<2 ^ 63):need≤grownCap w need old e∧grownCap w need old e≤maxLen:=by
 unfold grownCap Question.cut maxLen;have:=Nat.mod_lt (w.tape w.drawn (.appendCap need old e)) (show 2 ^ 63-need>0 by omega);simp only;omega
theorem JT {need old b:Nat} (h1:old<need) (h2:need≤1000000000000) (h3:b≤100):Builtin.nextslicecap need old*b≤281474976710656:=by
 have key:Builtin.nextslicecap need old≤2000000000000:=by
  unfold Builtin.nextslicecap;split
  ·omega
  ·split
   ·omega
   ·have gb:∀(k c:Nat),c≤need→Builtin.growBy need k c≤need+(need+768) / 4:=by
     intro k;induction k with
     | zero=>intro c hc;simp only [Builtin.growBy];omega
     | succ k ih =>
      intro c hc;simp only [Builtin.growBy];split
      ·omega
      ·by_cases hlt:c+(c+768) / 4≤need
       ·exact ih _ hlt
       ·cases k with
        | zero=>simp only [Builtin.growBy];omega
        | succ k =>
         simp only [Builtin.growBy];rw [if_pos (by omega)];omega
    have:=gb 4 old (by omega);omega
 calc Builtin.nextslicecap need old*b≤2000000000000*100:=Nat.mul_le_mul key h3
  _≤281474976710656:=by omega
theorem Le (t tx ty e:Nat) (i:TypeInfo) (ht:P.underlying t=some (.slice e)) (hi:P.info? e=some i) (b tyb sLen sCap:Nat) (cur:Array Value) {w:World} (y:Value) (n:Nat) (vals:List Value) (hs:Src P i.size tx y n vals w)
  (hg:w.heap[b]? =some (.cells cur tyb (0,0))) (hroom:sLen+n≤sCap) (hfit:sLen*i.size+vals.length≤cur.size) :
  (Builtin.append_ #[t,tx] ty #[.slice (some ⟨b,0,none⟩) sLen sCap,y]).run P w= .ok (.slice (some ⟨b,0,none⟩) (sLen+n) sCap) (w.setRow b (cur.toList.take (sLen*i.size)++vals++cur.toList.drop (sLen*i.size+vals.length)).toArray):=by
 have hst:=run_storeCells_at P b (sLen*i.size) tyb vals 0 cur w hg (by simpa using hfit) hs.one;simp only [Nat.add_zero] at hst;have ha:(⟨b,0,none⟩:Addr).add (sLen*i.size)=⟨b,sLen*i.size,none⟩:=by rw [Addr.add_lit];simp
 rcases hs.kind with ⟨e',hk⟩ | hk<;>simp [Builtin.append_,run_underlying ht,run_underlying hk,sizeOf,typeInfo,hi,hs.len,hroom,hs.cells,ha,hst]
end
end Go.Proofs.YthblfhgofopcaaaGreat

namespace Go.Proofs.YthblfhgofopcaaaGreat
open Go.RowKit
variable [DM]
section
variable {P:Program} {T:Dj} {c:Cx} {h:HF} {ρ:Operand→Value} {o:Oper} {x:AV} {p:Prop} {us:List (Nat×Ob)}
theorem Jd {t tx:Nat} {A B:Operand} (ho:o.op= .call ⟨.builtin .append,#[A,B],#[t,tx]⟩) {y:Value} {w' :World} (hr:(Builtin.append_ #[t,tx] o.type #[ρ A,ρ B]).run P c.w= .ok y w'):(execOp ρ o).run P c.w= .ok (.value y) w' :=by
 simp [execOp,ho,resolve,invoke,builtin,hr]
theorem U6 {olds news:List AV} {sz:Nat} {ov nv:List Value} {rest:Array Value} (h1:ov.length=olds.length*sz) (h2:nv.length=news.length*sz)
  (o1:∀(i:Nat) (e:AV),olds[i]? =some e→e.cs.length=sz) (o2:∀(i:Nat) (e:AV) (j:Nat) (u:AV),olds[i]? =some e→e.cs[j]? =some u→∃y,ov[i*sz+j]? =some y∧AS c h u y)
  (n1:∀(i:Nat) (e:AV),news[i]? =some e→e.cs.length=sz) (n2:∀(i:Nat) (e:AV) (j:Nat) (u:AV),news[i]? =some e→e.cs[j]? =some u→∃y,nv[i*sz+j]? =some y∧AS c h u y) :
  (∀(i:Nat) (e:AV),(olds++news)[i]? =some e→e.cs.length=sz)∧
  ∀(i:Nat) (e:AV) (j:Nat) (u:AV),(olds++news)[i]? =some e→e.cs[j]? =some u→∃y,((ov++nv).toArray++rest)[i*sz+j]? =some y∧AS c h u y:=by
 have hget:∀m:Nat,m<(ov++nv).length→((ov++nv).toArray++rest)[m]? =(ov++nv)[m]? :=fun m hm=>by
  rw [Array.getElem?_append_left (by simpa using hm)];simp
 refine ⟨fun i e he=> ?_,fun i e j u he hj=> ?_⟩
 ·by_cases hi:i<olds.length
  ·rw [List.getElem?_append_left hi] at he;exact o1 i e he
  ·rw [List.getElem?_append_right (by omega)] at he;exact n1 _ e he
 ·by_cases hi:i<olds.length
  ·rw [List.getElem?_append_left hi] at he;obtain ⟨y,hy,hv⟩:=o2 i e j u he hj;have hlt:=(List.getElem?_eq_some_iff.1 hy).1;exact ⟨y,by rw [hget _ (by simp;omega),List.getElem?_append_left hlt];exact hy,hv⟩
  ·rw [List.getElem?_append_right (by omega)] at he;obtain ⟨y,hy,hv⟩:=n2 _ e j u he hj;have hlt:=(List.getElem?_eq_some_iff.1 hy).1;have e1:i*sz+j=ov.length+((i-olds.length)*sz+j):=by
    rw [h1,←Nat.add_assoc,←Nat.add_mul,show olds.length+(i-olds.length)=i by omega]
   exact ⟨y,by rw [hget _ (by simp;omega),e1,List.getElem?_append_right (by omega),Nat.add_sub_cancel_left];exact hy,hv⟩
theorem SZ {t tx nm:Nat} {A B:Operand} {a b:AV} (hT:CQ P T) (ho:o.op= .call ⟨.builtin .append,#[A,B],#[t,tx]⟩) (hh:BH c h) (ha:AS c h a (ρ A)) (hb:AS c h b (ρ B)) (hn:h nm= .nil)
  (hp:FY T h (T t) (T tx) a b nm= .out p x us) (hq:p):IL P c h (execOp ρ o) x (Bc us h):=by
 unfold FY at hp;split at hp
 ·rename_i e _ _ _ _ _ ht htx;have hu:=DG hT ht rfl;have hux:=DG hT htx rfl;split at hp
  ·rename_i ei hte;obtain ⟨je,_,zv,i1,i2,i3,i4,i5,i6,i7,_,_⟩:=Cd hT hte;split at hp
   ·rename_i q news hrd;split at hp
    ·
     injection hp with h1 h2 h3
     subst h1 h2 h3;obtain ⟨q1,q2,q3,q4,q5⟩:=hq;have hA:=As ha;obtain ⟨vals,hsrc,hz,hrel⟩:=R4 hux (JV (P:=P) hh hb hrd q1) q3;rw [←i5] at hsrc;by_cases h0:news.length=0
     ·have hn0:news=[]:=List.eq_nil_of_length_eq_zero h0;subst hn0;have hv0:vals=[]:=List.eq_nil_of_length_eq_zero (by simpa using hsrc.newsLen);subst hv0;exact LO hh hn ei.size (A:=none) (Jd ho (by rw [hA];exact run_append_nothing c.w t tx o.type e je hu i1 none 0 0 (Nat.le_refl _) (ρ B) hsrc))
     ·have hgr:=run_append_grow_src (P:=P) c.w t tx o.type e je zv hu i1 i3 none 0 0 [] (by simp [Builtin.firstCells]) (ρ B) news.length vals hsrc (by omega) (by omega) (by rw [i6,Nat.zero_add];exact JT (by omega) q4 q5);simp only [Nat.zero_add,List.nil_append] at hgr;obtain ⟨c1,c2⟩:=K6 c.w news.length 0 e (by omega);have hvl:vals.length=news.length*ei.size:=by rw [←i5];exact hsrc.newsLen
      have hzl:(Builtin.zeroCells zv.cells (grownCap c.w news.length 0 e-news.length)).size=(grownCap c.w news.length 0 e-news.length)*ei.size:=by simp [Builtin.zeroCells,i4]
      have hD:BH { c with w:=c.w.drew } h:=hh.keep_drew;have hKD:Bj c h { c with w:=c.w.drew } h:=Bj.grow ((Aw.refl _).drew) (.inr (Nat.le_succ _));generalize hcells:vals.toArray++Builtin.zeroCells zv.cells (grownCap c.w news.length 0 e-news.length)=cells at hgr;have hsz:cells.size=grownCap c.w news.length 0 e*ei.size:=by
       rw [←hcells,Array.size_append,hzl,List.size_toArray,hvl,←Nat.add_mul];congr 1;omega
      have hget:∀m:Nat,m<vals.length→cells[m]? =vals[m]? :=fun m hm=>by
       rw [←hcells,Array.getElem?_append_left (by simpa using hm)];simp
      obtain ⟨K,H,e1⟩:=Ja hD hn ei.size news cells e (by rw [hsz];exact Nat.mul_le_mul_right _ c1) hz (fun i e2 j u he hj=>by
       obtain ⟨y,hy,hv⟩:=hrel i e2 j u he hj
       exact ⟨y,by rw [hget _ (List.getElem?_eq_some_iff.1 hy).1];exact hy,hv.ext hKD.ext⟩)
      refine ⟨_,_, .inl (Jd ho (by rw [hA];exact hgr)),hKD.trans K,H, .rsl _ _ _ _ _ rfl ?_⟩;rw [e1];refine ⟨Nat.le_refl _,fun _=>⟨_,_,rfl,c1,c2,fun _=>⟨by simp,by simp,cells,e,?_,?_⟩⟩⟩
      ·simp only [if_true];exact heap_alloc_new c.w.drew _
      ·rw [hsz];simp
    ·rename_i r g o' n;split at hp
     ·rename_i g' sz es hr;injection hp with h1 h2 h3
      subst h1 h2 h3;obtain ⟨q1,q2,q3,q4,q5,rfl,rfl,rfl,q6⟩:=hq;have hrA:FV h ei.size (.rsl r g' 0 n)=some (g' =g' ∧ei.size=ei.size∧0+n≤es.length,(es.drop 0).take n):=by simp [FV,hr]
      have hcA:=JV (P:=P) hh ha hrA ⟨rfl,rfl,by omega⟩;simp only [List.drop_zero] at hcA;obtain ⟨vals,hsrc,hz,hrel⟩:=R4 hux (JV (P:=P) hh hb hrd q1) q3;rw [←i5] at hsrc;obtain ⟨ov,v1,v2,v3,v4,v5,v6⟩:=hcA;have hln:(es.take n).length=n:=by simp;omega
      rw [hln] at v1 v3 v4;have hgd:=ha;cases hgd with
      | rsl _ _ _ _ _ _ hgd =>
       rw [hr] at hgd;obtain ⟨Ad,cap,hy,k1,k2,k3⟩:=hgd.2 rfl;have hvl:vals.length=news.length*ei.size:=by rw [←i5];exact hsrc.newsLen
       by_cases h0:news.length=0
       ·have hn0:news=[]:=List.eq_nil_of_length_eq_zero h0;subst hn0;have hv0:vals=[]:=List.eq_nil_of_length_eq_zero (by simpa using hvl);subst hv0;obtain ⟨K,H⟩:=YW hh (g' :=g' +1) (es' :=es.take n) hr (by omega) (by simp;omega) (fun i e2 he=>by
         rw [List.getElem?_take] at he
         split at he
         ·exact he
         ·cases he)
        have hrun:=run_append_nothing (P:=P) c.w t tx o.type e je hu i1 Ad n cap k1 (ρ B) hsrc;simp only [List.append_nil,List.length_nil,Nat.add_zero];refine ⟨_,c, .inl (Jd ho (by rw [hy];exact hrun)),K,H, .rsl _ _ _ _ _ rfl ?_⟩;have e1:Bc [(r, .arr (g' +1) ei.size (es.take n))] h r= .arr (g' +1) ei.size (es.take n):=by simp [Bc]
        rw [e1];exact ⟨Nat.le_refl _,fun _=>⟨Ad,cap,rfl,k1,k2,k3⟩⟩
       ·by_cases hroom:n+news.length≤cap
        ·
         obtain ⟨j1,rfl,cs,ty,j2,j3⟩:=k3 (by omega);obtain ⟨cs2,ty2,a1,a2,a3,a4⟩:=hh.ar r g' ei.size es hr j1;rw [j2] at a1;injection a1 with a1
         injection a1 with a1 a1'
         subst a1 a1';simp only [Nat.zero_add,Nat.zero_mul] at j3 hy;have hfit:n*ei.size+vals.length≤cs.size:=by
          rw [hvl,←Nat.add_mul];exact Nat.le_trans (Nat.mul_le_mul_right _ hroom) j3
         have hrun:=Le (P:=P) t tx o.type e je hu i1 (c.bl r) ty n cap cs (ρ B) news.length vals hsrc j2 hroom (by rw [i5];exact hfit);rw [i5] at hrun;generalize hcs' :(cs.toList.take (n*ei.size)++vals++cs.toList.drop (n*ei.size+vals.length)).toArray=cs' at hrun;have htl:cs.toList.length=cs.size:=by simp
         have hsz:cs'.size=cs.size:=by rw [←hcs'];simp;omega
         have hget:∀m:Nat,cs'[m]? =(cs.toList.take (n*ei.size)++vals++cs.toList.drop (n*ei.size+vals.length))[m]? :=fun m=>by rw [←hcs',List.getElem?_toArray]
         have hgt:∀m:Nat,cs[m]? =cs.toList[m]? :=fun m=>by simp
         obtain ⟨w1,w2,w3,w4,w5,w6⟩:=HG (cs' :=cs') j2;have htk:∀(i:Nat) (e2:AV),(es.take n)[i]? =some e2→es[i]? =some e2∧i<n:=fun i e2 he=>by
          rw [List.getElem?_take] at he;split at he
          ·exact ⟨he,‹_›⟩
          ·cases he
         obtain ⟨K,H,e1⟩:=E6 hh (g' :=g' +1) (es' :=es.take n++news) (cs' :=cs') hr j1 j2 hsz (by omega) (by
           rw [hsz,List.length_append,hln]
           exact Nat.le_trans (Nat.mul_le_mul_right _ hroom) j3)
          (fun i e2 he=>by
           by_cases hi:i<(es.take n).length
           ·rw [List.getElem?_append_left hi] at he;exact a3 i e2 (htk i e2 he).1
           ·rw [List.getElem?_append_right (by omega)] at he;exact hz _ e2 he)
          (fun i e2 j u he hj=>by
           by_cases hi:i<(es.take n).length
           ·rw [List.getElem?_append_left hi] at he
            obtain ⟨he',hin⟩:=htk i e2 he
            obtain ⟨y,hy',hv⟩:=a4 i e2 j u he' hj
            have hlt:j<ei.size:=by rw [←a3 i e2 he'];exact (List.getElem?_eq_some_iff.1 hj).1
            have hks:i*ei.size+ei.size≤n*ei.size:=by rw [←Nat.succ_mul];exact Nat.mul_le_mul_right _ hin
            exact ⟨y,by rw [hget,Fe (by omega) (by omega),←hgt];exact hy',hv⟩
           ·rw [List.getElem?_append_right (by omega),hln] at he
            obtain ⟨y,hy',hv⟩:=hrel _ e2 j u he hj
            have hlt:=(List.getElem?_eq_some_iff.1 hy').1
            have e3:i*ei.size+j-n*ei.size=(i-n)*ei.size+j:=by
             have:i*ei.size=n*ei.size+(i-n)*ei.size:=by rw [←Nat.add_mul];congr 1;omega
             omega
            have e4:n*ei.size≤i*ei.size:=Nat.mul_le_mul_right _ (by omega)
            exact ⟨y,by rw [hget,Fq (by omega) (by omega) (by omega),e3];exact hy',hv⟩)
          (c.w.setRow (c.bl r) cs') w1 w2 w3 w4 w5 w6 rfl
         refine ⟨_,_, .inl (Jd ho (by rw [hy];exact hrun)),K,H, .rsl _ _ _ _ _ rfl ?_⟩;rw [e1];exact ⟨Nat.le_refl _,fun _=>⟨_,cap,rfl,hroom,k2,fun _=>⟨j1,by simp,cs',ty,w2,by rw [hsz];simpa using j3⟩⟩⟩
        ·
         have hgr:=run_append_grow_src (P:=P) c.w t tx o.type e je zv hu i1 i3 Ad n cap ov (by rw [i5,←hy];exact v4) (ρ B) news.length vals hsrc (by omega) (by omega) (by rw [i6];exact JT (by omega) q4 q5);obtain ⟨c1,c2⟩:=K6 c.w (n+news.length) cap e (by omega);have hzl:(Builtin.zeroCells zv.cells (grownCap c.w (n+news.length) cap e-(n+news.length))).size=(grownCap c.w (n+news.length) cap e-(n+news.length))*ei.size:=by simp [Builtin.zeroCells,i4]
         have hD:BH { c with w:=c.w.drew } h:=hh.keep_drew;have hKD:Bj c h { c with w:=c.w.drew } h:=Bj.grow ((Aw.refl _).drew) (.inr (Nat.le_succ _));obtain ⟨g1,g2⟩:=U6 (c:=c) (h:=h) (olds:=es.take n) (news:=news) (sz:=ei.size) (ov:=ov) (nv:=vals) (rest:=Builtin.zeroCells zv.cells (grownCap c.w (n+news.length) cap e-(n+news.length))) (by rw [hln];exact v1) hvl v5 v6 hz hrel;generalize hcells:(ov++vals).toArray++Builtin.zeroCells zv.cells (grownCap c.w (n+news.length) cap e-(n+news.length))=cells at hgr g2;have hsz:cells.size=grownCap c.w (n+news.length) cap e*ei.size:=by
          rw [←hcells,Array.size_append,hzl,List.size_toArray,List.length_append,v1,hvl,←Nat.add_mul,←Nat.add_mul];congr 1;omega
         obtain ⟨K,H,e1⟩:=dW hD (g' :=g' +1) hr (by omega) (es.take n++news) cells e (by rw [hsz,List.length_append,hln];exact Nat.mul_le_mul_right _ c1) g1 (fun i e2 j u he hj=>by
          obtain ⟨y,hy',hv⟩:=g2 i e2 j u he hj
          exact ⟨y,hy',hv.ext hKD.ext⟩)
         refine ⟨_,_, .inl (Jd ho (by rw [hy];exact hgr)),hKD.trans K,H, .rsl _ _ _ _ _ rfl ?_⟩;rw [e1];refine ⟨Nat.le_refl _,fun _=>⟨_,_,rfl,c1,c2,fun _=>⟨by simp,by simp,cells,e,?_,?_⟩⟩⟩
         ·simp only [if_true];exact heap_alloc_new c.w.drew _
         ·rw [hsz];simp
     ·cases hp
    ·cases hp
   ·cases hp
  ·cases hp
 ·cases hp
end
end Go.Proofs.YthblfhgofopcaaaGreat
