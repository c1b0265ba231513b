/-
  Parts of the proof: VmN, VmO.
-/
import Derived.Test.YthblfhgofopcaaaGreatSH06
import Derived.Deep.LoopGhost
import Derived.Scope
set_option linter.all false
namespace Go.Proofs.YthblfhgofopcaaaGreat
open Go.RowKit
variable [DM]
mutual
def AV.fin (inv:Nat→Option Nat) (F:Nat→Nat→Nat→Nat→AV):AV→AV
 | .any=> .any
 | .v x=> .v x
 | .agg l=> .agg (finL inv F l)
 | .tup l=> .tup (finL inv F l)
 | .sl f sz es=> .sl f sz (finL inv F es)
 | .isp f sz es i j=> .isp f sz (finL inv F es) i j
 | .ref r g k j=>match inv r with
  | some i=> .ref i g k j
  | none=> .any
 | .rsl r g o n=>match inv r with
  | some i=> .rsl i g o n
  | none=>F r g o n
 | .clo f l=> .clo f (finL inv F l)
def finL (inv:Nat→Option Nat) (F:Nat→Nat→Nat→Nat→AV):List AV→List AV
 | []=>[]
 | x::l=>x.fin inv F::finL inv F l
end
def frz (inv:Nat→Option Nat) (h:HF):Nat→Nat→Nat→Nat→Nat→AV
 | 0,_,_,_,_=> .any
 | d+1,r,g,o,n=>match h r with
  | .arr g' sz es=>if g' =g∧o+n≤es.length then .sl true sz (((es.drop o).take n).map (AV.fin inv (frz inv h d))) else .any
  | _=> .any
def Ud (inv:Nat→Option Nat) (F:Nat→Nat→Nat→Nat→AV):Ob→Ob
 | .arr g sz es=> .arr g sz (finL inv F es)
 | o=>o
theorem Bo (inv:Nat→Option Nat) (F:Nat→Nat→Nat→Nat→AV) (l:List AV):finL inv F l=l.map (AV.fin inv F):=by
 induction l with
 | nil=>rfl
 | cons x l ih=>simp only [finL,ih,List.map_cons]
theorem Fy {inv:Nat→Option Nat} {F:Nat→Nat→Nat→Nat→AV} (hF:∀r g o n,(F r g o n).cs=[F r g o n]) (x:AV):(x.fin inv F).cs=x.cs.map (AV.fin inv F):=by
 cases x with
 | agg l=>simp [AV.fin,AV.cs,Bo]
 | ref r g k j=>cases hi:inv r<;>simp [AV.fin,AV.cs,hi]
 | rsl r g o n=>cases hi:inv r<;>simp [AV.fin,AV.cs,hi]<;>exact hF r g o n
 | _=>simp [AV.fin,AV.cs]
theorem NX (inv:Nat→Option Nat) (h:HF) (d r g o n:Nat):(frz inv h d r g o n).cs=[frz inv h d r g o n]:=by
 cases d with
 | zero=>rfl
 | succ d=>simp only [frz];(repeat' split)<;>rfl
def IC (h:HF) (inv:Nat→Option Nat) (F:Nat→Nat→Nat→Nat→AV):List (Nat×Nat)→Hl
 | []=>[]
 | p::l=>(p.2,Ud inv F (h p.1))::IC h inv F l
def Ex (l:List (Nat×Nat)) (r:Nat):Option Nat:=match l with
 | []=>none
 | p::l=>if p.1=r then some p.2 else Ex l r
theorem XR {l:List (Nat×Nat)} {r i:Nat} (h:Ex l r=some i):(r,i)∈l:=by
 induction l with
 | nil=>cases h
 | cons p l ih =>
  simp only [Ex] at h;split at h
  ·rename_i he;injection h with h;subst he h;exact List.mem_cons_self
  ·exact List.mem_cons_of_mem _ (ih h)
theorem YV {l:List (Nat×Nat)} (hn:(l.map (·.1)).Nodup) {p:Nat×Nat} (h:p∈l):Ex l p.1=some p.2:=by
 induction l with
 | nil=>cases h
 | cons q l ih =>
  rw [List.map_cons,List.nodup_cons] at hn;simp only [Ex];rcases List.mem_cons.1 h with rfl | h
  ·rw [if_pos rfl]
  ·rw [if_neg (fun he:q.1=p.1=>hn.1 (by rw [he];exact List.mem_map_of_mem (f:=(·.1)) h)),ih hn.2 h]
theorem ZK {h:HF} {inv:Nat→Option Nat} {F:Nat→Nat→Nat→Nat→AV} {l:List (Nat×Nat)} (hn:(l.map (·.2)).Nodup) {p:Nat×Nat} (hp:p∈l):lk (IC h inv F l) .nil p.2=Ud inv F (h p.1):=by
 induction l with
 | nil=>cases hp
 | cons q l ih =>
  rw [List.map_cons,List.nodup_cons] at hn;simp only [IC,lk];rcases List.mem_cons.1 hp with rfl | hp
  ·rw [if_pos rfl]
  ·rw [if_neg (fun he:q.2=p.2=>hn.1 (by rw [he];exact List.mem_map_of_mem (f:=(·.2)) hp)),ih hn.2 hp]
theorem Zy {h:HF} {inv:Nat→Option Nat} {F:Nat→Nat→Nat→Nat→AV} {l:List (Nat×Nat)} {i:Nat} (hi:lk (IC h inv F l) .nil i≠ .nil):∃r,(r,i)∈l:=by
 induction l with
 | nil=>exact absurd rfl hi
 | cons q l ih =>
  simp only [IC,lk] at hi;by_cases he:q.2=i
  ·exact ⟨q.1,by rw [←he];exact List.mem_cons_self⟩
  ·rw [if_neg he] at hi;obtain ⟨r,hr⟩:=ih hi;exact ⟨r,List.mem_cons_of_mem _ hr⟩
section
variable {c0 c:Cx} {h0 h:HF}
theorem Vn {ne d:Nat} {l:List (Nat×Nat)} (he:∀i,h0 i≠ .nil→i<ne) (hl:∀i,i<ne→Ex l i=some i) (h1:(l.map (·.1)).Nodup) (h2:(l.map (·.2)).Nodup) (hn0:c0.n0=c0.w.heap.size) (K:Bj c0 h0 c h) (hh:BH c h) :
  ∃c2:Cx,c2.w=c.w∧Bj c0 h0 c2 (lk (IC h (Ex l) (frz (Ex l) h d) l) .nil)∧BH c2 (lk (IC h (Ex l) (frz (Ex l) h d) l) .nil)∧
   ∀x y,AS c h x y→AS c2 (lk (IC h (Ex l) (frz (Ex l) h d) l) .nil) (x.fin (Ex l) (frz (Ex l) h d)) y:=by
 generalize hinv:Ex l=inv at *;let old:Nat→Nat:=fun i=>((l.find? fun p=>p.2==i).map (·.1)).getD 0
 have inv_mem:∀r i,inv r=some i→(r,i)∈l:=fun r i hi=>by rw [←hinv] at hi;exact XR hi
 have mem_inv:∀r i,(r,i)∈l→inv r=some i:=fun r i hi=>by rw [←hinv];exact YV h1 hi
 have inj2:∀r r' i,(r,i)∈l→(r',i)∈l→r=r' :=by
  clear hl hinv inv_mem mem_inv h1;intro r r' i ha hb;induction l with
  | nil=>cases ha
  | cons p l ih =>
   rw [List.map_cons,List.nodup_cons] at h2;rcases List.mem_cons.1 ha with ha | ha<;>rcases List.mem_cons.1 hb with hb | hb
   ·rw [←ha] at hb;injection hb with hb;exact hb.symm
   ·exact absurd (List.mem_map_of_mem (f:=(·.2)) hb) (by rw [←ha] at h2;exact h2.1)
   ·exact absurd (List.mem_map_of_mem (f:=(·.2)) ha) (by rw [←hb] at h2;exact h2.1)
   ·exact ih h2.2 ha hb
 have old_of:∀r i,(r,i)∈l→old i=r:=fun r i hi=>by
  have hf:(l.find? fun p=>p.2==i).isSome=true:=by rw [List.find?_isSome];exact ⟨(r,i),hi,by simp⟩
  obtain ⟨q,hq⟩:=Option.isSome_iff_exists.1 hf;have hq1:=List.find?_some hq;have hq2:=List.mem_of_find?_eq_some hq;simp at hq1;simp only [old,hq,Option.map_some,Option.getD_some];exact inj2 q.1 r i (by rw [←hq1];exact hq2) hi
 let c2:Cx:={ c with bl:=fun i=>c.bl (old i),rl:=fun i=>c.rl (old i) };generalize hF:frz inv h d=F;let g2:HF:=lk (IC h inv F l) .nil;have g2_at:∀r i,(r,i)∈l→g2 i=Ud inv F (h r):=fun r i hi=>ZK h2 hi
 have g2_arr:∀i g sz es,g2 i= .arr g sz es→∃r es0,(r,i)∈l∧h r= .arr g sz es0∧es=finL inv F es0:=fun i g sz es hi=>by
  obtain ⟨r,hr⟩:=Zy (show lk (IC h inv F l) .nil i≠ .nil by rw [show lk (IC h inv F l) .nil i=g2 i from rfl,hi];exact fun h=>by cases h);rw [g2_at r i hr] at hi;cases hob:h r with
  | nil=>rw [hob] at hi;cases hi
  | dead=>rw [hob] at hi;cases hi
  | arr g' sz' es0 =>
   rw [hob] at hi;simp only [Ud] at hi;injection hi with e1 e2 e3
   subst e1 e2;exact ⟨r,es0,hr,hob,e3.symm⟩
 have mut2:∀b,dL c2 g2 b→dL c h b:=fun b ⟨i,g,sz,es,hi,hrl,hbl⟩=>by
  obtain ⟨r,es0,e1,e2,_⟩:=g2_arr i g sz es hi;have e3:=old_of r i e1;exact ⟨r,g,sz,es0,e2,by rw [←e3];exact hrl,by rw [←e3];exact hbl⟩
 have st2:∀f b,Dx c h f b→Dx c2 g2 f b:=fun f b hs=>⟨hs.1,fun hm=>hs.2.1 (mut2 b hm),hs.2.2⟩
 have own:∀r g sz es,inv r=none→h r= .arr g sz es→c.rl r=true→Dx c2 g2 true (c.bl r):=fun r g sz es hi hr hrl=>by
  obtain ⟨cs,ty,a1,_⟩:=hh.ar r g sz es hr hrl;refine ⟨lt_of_block a1,?_, .inl ?_⟩
  ·rintro ⟨i,g1,s1,e1,hi1,hl1,hb1⟩;obtain ⟨r1,es1,k1,k2,_⟩:=g2_arr i g1 s1 e1 hi1;have e3:=old_of r1 i k1;have:r=r1:=hh.inj r r1 g g1 sz s1 es es1 hr k2 hrl (by rw [←e3];exact hl1) (by rw [←e3];exact hb1.symm);rw [this,mem_inv r1 i k1] at hi;cases hi
  ·rcases K.fr r g sz es hr hrl with k1 | ⟨g0,es0,k1,_⟩
   ·show c.n0≤c.bl r;rw [K.n0,hn0];exact k1
   ·have:=hl r (he r (by rw [k1];exact fun h=>by cases h));rw [hi] at this;cases this
 have hFcs:∀r g o n,(F r g o n).cs=[F r g o n]:=by rw [←hF];exact NX inv h d
 have gen:∀(F:Nat→Nat→Nat→Nat→AV) ,(∀r g o n,(F r g o n).cs=[F r g o n])→(∀r g o n y,inv r=none→AS c h (.rsl r g o n) y→AS c2 g2 (F r g o n) y)→∀x y,AS c h x y→AS c2 g2 (x.fin inv F) y:=by
  intro F hFcs hFz x y k;induction k with
  | any y=>exact .any y
  | v x=>exact .v x
  | agg l ys hl _ ih =>
   refine .agg _ _ (by simp [Bo,hl]) fun i x y hx hy=> ?_
   rw [Bo] at hx;obtain ⟨x',hx',rfl⟩:=map_some hx;exact ih i x' y hx' hy
  | tup l ys hl _ ih =>
   refine .tup _ _ (by simp [Bo,hl]) fun i x y hx hy=> ?_
   rw [Bo] at hx;obtain ⟨x',hx',rfl⟩:=map_some hx;exact ih i x' y hx' hy
  | slE f sz A cap hc=>exact .slE _ _ _ _ hc
  | sl f sz es b o cap ys k1 k2 k3 k4 k5 k6 ih =>
   have e1:(finL inv F es).length=es.length:=by simp [Bo]
   have:=AS.sl (c:=c2) (h:=g2) f sz (finL inv F es) b o cap ys (by rw [e1];exact k1) k2 (st2 f b k3) (fun i e he=>by
    rw [Bo] at he
    obtain ⟨e',he',rfl⟩:=map_some he
    rw [Fy hFcs,List.length_map];exact k4 i e' he') (fun i e j u he hj=>by
    rw [Bo] at he
    obtain ⟨e',he',rfl⟩:=map_some he
    rw [Fy hFcs] at hj
    obtain ⟨u',hu',rfl⟩:=map_some hj
    exact k5 i e' j u' he' hu') (fun i e j u he hj=>by
    rw [Bo] at he
    obtain ⟨e',he',rfl⟩:=map_some he
    rw [Fy hFcs] at hj
    obtain ⟨u',hu',rfl⟩:=map_some hj
    exact ih i e' j u' he' hu')
   rw [e1] at this;exact this
  | isp f sz es k m b o ys k3 k4 k5 k6 ih =>
   exact AS.isp (c:=c2) (h:=g2) f sz (finL inv F es) k m b o ys (st2 f b k3) (fun i e he=>by
    rw [Bo] at he
    obtain ⟨e',he',rfl⟩:=map_some he
    rw [Fy hFcs,List.length_map];exact k4 i e' he') (fun i e j u he hj=>by
    rw [Bo] at he
    obtain ⟨e',he',rfl⟩:=map_some he
    rw [Fy hFcs] at hj
    obtain ⟨u',hu',rfl⟩:=map_some hj
    exact k5 i e' j u' he' hu') (fun i e j u he hj=>by
    rw [Bo] at he
    obtain ⟨e',he',rfl⟩:=map_some he
    rw [Fy hFcs] at hj
    obtain ⟨u',hu',rfl⟩:=map_some hj
    exact ih i e' j u' he' hu')
  | ref r g k j y h1' hg =>
   simp only [AV.fin];split
   ·rename_i i hi;refine .ref _ _ _ _ _ h1' ?_;have hm:=inv_mem r i hi;unfold Lg at hg ⊢;rw [g2_at r i hm];cases hr:h r with
    | nil=>rw [hr] at hg;exact hg.elim
    | dead=>trivial
    | arr g' sz es =>
     rw [hr] at hg;exact ⟨hg.1,fun e=>by show y=_;rw [show c2.bl i=c.bl (old i) from rfl,old_of r i hm];exact hg.2 e⟩
   ·exact .any _
  | rsl r g o n y h1' hg =>
   simp only [AV.fin];split
   ·rename_i i hi;refine .rsl _ _ _ _ _ h1' ?_;have hm:=inv_mem r i hi;unfold Lg at hg ⊢;rw [g2_at r i hm];cases hr:h r with
    | nil=>rw [hr] at hg;exact hg.elim
    | dead=>trivial
    | arr g' sz es =>
     rw [hr] at hg;refine ⟨hg.1,fun e=> ?_⟩;obtain ⟨A,cap,q1,q2,q3,q4⟩:=hg.2 e;have b1:c2.bl i=c.bl r:=by show c.bl (old i)=_;rw [old_of r i hm]
     have b2:c2.rl i=c.rl r:=by show c.rl (old i)=_;rw [old_of r i hm]
     exact ⟨A,cap,q1,q2,q3,fun h0=>by rw [b1,b2];exact q4 h0⟩
   ·rename_i hi;exact hFz r g o n y hi (.rsl _ _ _ _ _ h1' hg)
  | clo f l ys hl _ ih =>
   refine .clo _ _ _ (by simp [Bo,hl]) fun i x y hx hy=> ?_
   rw [Bo] at hx;obtain ⟨x',hx',rfl⟩:=map_some hx;exact ih i x' y hx' hy
 have frozen:∀d r g o n y,inv r=none→AS c h (.rsl r g o n) y→AS c2 g2 (frz inv h d r g o n) y:=by
  intro d;induction d with
  | zero=>intro r g o n y _ _;exact .any _
  | succ d ih =>
   intro r g o n y hi hr;simp only [frz];split
   ·rename_i g' sz es hob;split
    ·rename_i hc;obtain ⟨rfl,hle⟩:=hc;cases hr with
     | rsl _ _ _ _ _ h1' hg =>
      rw [hob] at hg;obtain ⟨A,cap,rfl,q2,q3,q4⟩:=hg.2 rfl;have G:=gen (frz inv h d) (NX inv h d) ih;have hlen:((es.drop o).take n).length=n:=by simp;omega
      by_cases h0:n=0
      ·subst h0;simp only [List.take_zero,List.map_nil];exact .slE _ _ _ _ q3
      ·obtain ⟨j1,rfl,_⟩:=q4 (by omega);obtain ⟨cs,ty,a1,a2,a3,a4⟩:=hh.ar r g' sz es hob j1;have key:∀(i:Nat) (e:AV),((es.drop o).take n)[i]? =some e→es[o+i]? =some e:=fun i e he=>by
        rw [List.getElem?_take] at he;split at he
        ·rwa [List.getElem?_drop] at he
        ·cases he
       have e1:(((es.drop o).take n).map (AV.fin inv (frz inv h d))).length=n:=by rw [List.length_map];exact hlen
       have:=AS.sl (c:=c2) (h:=g2) true sz (((es.drop o).take n).map (AV.fin inv (frz inv h d))) (c.bl r) (o*sz) cap (fun i j=>cs[(o+i)*sz+j]?.getD undef) (by rw [e1];exact q2) q3 (own r g' sz es hi hob j1) (fun i e he=>by
        obtain ⟨e',he',rfl⟩:=map_some he
        rw [Fy (NX inv h d),List.length_map];exact a3 _ e' (key i e' he')) (fun i e j u he hj=>by
        obtain ⟨e',he',rfl⟩:=map_some he
        rw [Fy (NX inv h d)] at hj
        obtain ⟨u',hu',rfl⟩:=map_some hj
        obtain ⟨v,hv,_⟩:=a4 _ e' j u' (key i e' he') hu'
        show c.w.cell? _=_
        rw [cell_of_row c.w _ _ cs ty (0,0) a1,show o*sz+i*sz+j=(o+i)*sz+j by rw [Nat.add_mul],hv]
        rfl) (fun i e j u he hj=>by
        obtain ⟨e',he',rfl⟩:=map_some he
        rw [Fy (NX inv h d)] at hj
        obtain ⟨u',hu',rfl⟩:=map_some hj
        obtain ⟨v,hv,hrel⟩:=a4 _ e' j u' (key i e' he') hu'
        show AS c2 g2 _ (cs[(o+i)*sz+j]?.getD undef)
        rw [hv]
        exact G u' v hrel)
       rw [e1] at this;exact this
    ·exact .any _
   ·exact .any _
 have G:=gen F hFcs (by rw [←hF];exact frozen d);refine ⟨c2,rfl,?_,⟨?_,?_,?_⟩,G⟩
 ·have old_e:∀i,i<ne→old i=i:=fun i hi=>old_of i i (inv_mem i i (hl i hi))
  exact {
   dr:=K.dr
   os:=K.os
   tape:=K.tape
   output:=K.output
   size:=K.size
   blk:=K.blk
   dd:=fun r hr=>by
    have hm:=inv_mem r r (hl r (he r (by rw [hr];exact fun h=>by cases h)))
    rw [show lk (IC h inv F l) .nil r=g2 r from rfl,g2_at r r hm,K.dd r hr];rfl
   ar:=fun r g sz es hr=>by
    have hlt:=he r (by rw [hr];exact fun h=>by cases h)
    have hm:=inv_mem r r (hl r hlt)
    have e1:g2 r=Ud inv F (h r):=g2_at r r hm
    rcases K.ar r g sz es hr with hd | ⟨g',es',ha,hle,heq⟩
    ·exact .inl (by rw [show lk (IC h inv F l) .nil r=g2 r from rfl,e1,hd];rfl)
    ·refine .inr ⟨g',finL inv F es',by rw [show lk (IC h inv F l) .nil r=g2 r from rfl,e1,ha];rfl,hle,fun hg=> ?_⟩
     obtain ⟨d1,d2,d3⟩:=heq hg
     have b1:c2.bl r=c.bl r:=by show c.bl (old r)=_;rw [old_e r hlt]
     have b2:c2.rl r=c.rl r:=by show c.rl (old r)=_;rw [old_e r hlt]
     exact ⟨by rw [b1,d1],by rw [b2,d2],d3⟩
   fr:=fun i g sz es hi hrl=>by
    obtain ⟨r,es0,k1,k2,_⟩:=g2_arr i g sz es hi
    have e3:=old_of r i k1
    have b1:c2.bl i=c.bl r:=by show c.bl (old i)=_;rw [e3]
    have b2:c2.rl i=c.rl r:=by show c.rl (old i)=_;rw [e3]
    rcases K.fr r g sz es0 k2 (by rw [←b2];exact hrl) with j1 | ⟨g0,es1,j1,j2,j3⟩
    ·exact .inl (by rw [b1];exact j1)
    ·have hlt:=he r (by rw [j1];exact fun h=>by cases h)
     have hri:=hl r hlt
     have hir:=mem_inv r i k1
     rw [hri] at hir
     injection hir with hir
     subst hir
     exact .inr ⟨g0,es1,j1,j2,by rw [b1];exact j3⟩
   okT:=K.okT
   okF:=K.okF
   n0:=K.n0 }
 ·intro i g sz es hi hrl;obtain ⟨r,es0,k1,k2,rfl⟩:=g2_arr i g sz es hi;have e3:=old_of r i k1;obtain ⟨cs,ty,a1,a2,a3,a4⟩:=hh.ar r g sz es0 k2 (by rw [←e3];exact hrl);refine ⟨cs,ty,by show c.w.heap[c.bl (old i)]? =_;rw [e3];exact a1,by rw [Bo,List.length_map];exact a2,fun m e he=> ?_,fun m e j u he hj=> ?_⟩
  ·rw [Bo] at he;obtain ⟨e',he',rfl⟩:=map_some he;rw [Fy hFcs,List.length_map];exact a3 m e' he'
  ·rw [Bo] at he;obtain ⟨e',he',rfl⟩:=map_some he;rw [Fy hFcs] at hj;obtain ⟨u',hu',rfl⟩:=map_some hj;obtain ⟨y,hy,hv⟩:=a4 m e' j u' he' hu';exact ⟨y,hy,G u' y hv⟩
 ·intro i g sz es hi hrl;obtain ⟨r,es0,k1,k2,rfl⟩:=g2_arr i g sz es hi;have e3:=old_of r i k1;rw [hh.em r g sz es0 k2 (by rw [←e3];exact hrl)];rfl
 ·intro i i' g g' sz sz' es es' hi hi' hrl hrl' hbb;obtain ⟨r,es0,k1,k2,_⟩:=g2_arr i g sz es hi;obtain ⟨r',es0',k1',k2',_⟩:=g2_arr i' g' sz' es' hi';have e3:=old_of r i k1;have e3' :=old_of r' i' k1';have:r=r' :=hh.inj r r' g g' sz sz' es0 es0' k2 k2' (by rw [←e3];exact hrl) (by rw [←e3'];exact hrl') (by rw [←e3,←e3'];exact hbb);subst this;have a:=mem_inv r i k1;rw [mem_inv r i' k1'] at a;injection a with a
  exact a.symm
end
end Go.Proofs.YthblfhgofopcaaaGreat

namespace Go.Proofs.YthblfhgofopcaaaGreat
open Go.RowKit
variable [DM]
structure St where
 nx:Nat
 tm:List (Nat×AV)
 hp:Hl
def Dd (tm:List (Nat×AV)):Operand→AV
 | .tmp t=>lk tm .any t
 | .const x=> .v x
 | .global n=> .v (.pointer (some ⟨n,0,none⟩))
 | .func f=> .clo f []
def Bz (tm:List (Nat×AV)) (dst:Option Nat) (x:AV):List (Nat×AV):=match dst with
 | some d=>Ci tm d x
 | none=>tm
def Eo:List (Nat×Ob)→Hl→Hl
 | [],hp=>hp
 | u::us,hp=>Eo us (Ci hp u.1 u.2)
theorem Sp (us:List (Nat×Ob)) (hp:Hl):lk (Eo us hp) .nil=Bc us (lk hp .nil):=by
 induction us generalizing hp with
 | nil=>rfl
 | cons u us ih =>
  simp only [Eo,ih,Bc,List.foldl_cons];congr 1;funext r;rw [GV];by_cases h:r=u.1
  ·subst h;simp
  ·rw [if_neg (fun e=>h e.symm),if_neg h]
def Ap (P:Program) (f:Nat) (xs:List AV) (hp:Hl) (nm:Nat) (K:AV→Hl→Prop):Prop :=
 ∃(ρ:List Nat) (bm:Bool) (R:AV→Hl→Prop),Bb P f (passL (E7 0 ρ) (lk hp .nil) xs) (D5 (E7 0 ρ) (lk hp .nil) 0 ρ) R∧ρ.Nodup∧(∀r∈ρ,∃g sz es,lk hp .nil r= .arr g sz es)∧
  (bm=true∨(nobL (E7 0 ρ) xs=true∧∀r∈ρ,∀g sz es,lk hp .nil r= .arr g sz es→nobL (E7 0 ρ) es=true))∧
  ∀x hl,R x hl→FU hl∧(bm=true→x.allT=true∧∀p∈hl,Yh p.2=true)∧(∀p∈hl,ρ[p.1]? =none→lk hp .nil (nm+p.1)= .nil)∧K (x.ren (rn nm ρ)) (HT (rn nm ρ) hl hp)
def Cg (nt:Nat) (dst:Option Nat):Prop:=match dst with
 | some d=>d<nt
 | none=>True
inductive Gd where
 | run
 | skip
 | ask (b:Bool) (t:Nat) (want:Bool)
 | bad
def Nv (ops:List Oper) (tm:List (Nat×AV)):Option (Nat×Bool)→Gd
 | none=> .run
 | some (i,want)=>match ops[i]? with
  | some o=>match o.dst with
   | some t=>match lk tm .any t with
    | .v (.bool b)=> .ask b t want
    | .v (.tuple _)=> .skip
    | _=> .bad
   | none=> .skip
  | none=> .skip
def Zs:Oper→Op
 | ⟨_,op,_,_,_,_⟩=>op
def UG:Oper→Option Nat
 | ⟨d,_,_,_,_,_⟩=>d
def dD:Oper→Option (Nat×Bool)
 | ⟨_,_,_,_,_,g⟩=>g
def I7 (p:Prop):Prop:=p
def EZ (P:Program) (T:Dj) (nt:Nat) (all:List Oper):List Oper→Nat→List (Nat×AV)→Hl→(St→Prop)→Prop
 | [],nx,tm,hp,K=>K ⟨nx,tm,hp⟩
 | o::os,nx,tm,hp,K=>match Nv all tm o.guard with
  | .run=>match Du T (Dd tm) (lk hp .nil) nx o.op with
   | .bad=>False
   | .out p x us=>Cg nt o.dst∧p∧lk hp .nil nx= .nil∧EZ P T nt all os (nx+16) (Bz tm o.dst x) (Eo us hp) K
   | .call f xs=>Cg nt o.dst∧Ap P f xs hp nx fun x hp' =>I7 (EZ P T nt all os (nx+16) (Bz tm o.dst x) hp' K)
  | .skip=>Cg nt o.dst∧EZ P T nt all os nx (Bz tm o.dst (.v undef)) hp K
  | .ask b t want=>match b,want with
   | true,true=>match Du T (Dd (Ci tm t (.v (.bool true)))) (lk hp .nil) nx o.op with
    | .bad=>False
    | .out p x us=>Cg nt o.dst∧p∧lk hp .nil nx= .nil∧EZ P T nt all os (nx+16) (Bz (Ci tm t (.v (.bool true))) o.dst x) (Eo us hp) K
    | .call f xs=>Cg nt o.dst∧Ap P f xs hp nx fun x hp' =>I7 (EZ P T nt all os (nx+16) (Bz (Ci tm t (.v (.bool true))) o.dst x) hp' K)
   | false,false=>match Du T (Dd (Ci tm t (.v (.bool false)))) (lk hp .nil) nx o.op with
    | .bad=>False
    | .out p x us=>Cg nt o.dst∧p∧lk hp .nil nx= .nil∧EZ P T nt all os (nx+16) (Bz (Ci tm t (.v (.bool false))) o.dst x) (Eo us hp) K
    | .call f xs=>Cg nt o.dst∧Ap P f xs hp nx fun x hp' =>I7 (EZ P T nt all os (nx+16) (Bz (Ci tm t (.v (.bool false))) o.dst x) hp' K)
   | true,false=>Cg nt o.dst∧EZ P T nt all os nx (Bz (Ci tm t (.v (.bool true))) o.dst (.v undef)) hp K
   | false,true=>Cg nt o.dst∧EZ P T nt all os nx (Bz (Ci tm t (.v (.bool false))) o.dst (.v undef)) hp K
  | .bad=>False
def Cr (K:St→Prop) (Q:Exit→St→Prop):Exit→St→Prop
 | .normal,σ=>K σ
 | e,σ=>Q e σ
def FK (i:Nat) (Q:Exit→St→Prop):Exit→St→Prop
 | .exit j,σ=>if j=i then Q .normal σ else Q (.exit j) σ
 | e,σ=>Q e σ
def KL (Q:Exit→St→Prop):Exit→St→Prop
 | .goto _,_=>False
 | e,σ=>Q e σ
def XG (x:AV) (p q:Prop):Prop:=match x with
 | .v (.bool b)=>(b=true→p)∧(b=false→q)
 | _=>False
def Fj (l:List (Nat×Nat)) (d:Nat) (ts:List Nat) (nx:Nat) (σ:St):St :=
 ⟨nx,ts.map fun t=>(t,(lk σ.tm .any t).fin (Ex l) (frz (Ex l) (lk σ.hp .nil) d)),IC (lk σ.hp .nil) (Ex l) (frz (Ex l) (lk σ.hp .nil) d) l⟩
def C0 (ne:Nat) (l:List (Nat×Nat)):Prop:=(∀i,i<ne→Ex l i=some i)∧(l.map (·.1)).Nodup∧(l.map (·.2)).Nodup
structure ID (c:Cx) (h:HF) (nt:Nat) (tm:List (Nat×AV)) (a:Act):Prop where
 sz:a.tmps.size=nt
 df:a.defers=[]
 tm:∀t,AS c h (lk tm .any t) (a.tmps.getD t undef)
structure V3 (c0:Cx) (h0:HF) (nt:Nat) (σ:St) (c:Cx) (a:Act):Prop where
 kp:Bj c0 h0 c (lk σ.hp .nil)
 hp:BH c (lk σ.hp .nil)
 fr:ID c (lk σ.hp .nil) nt σ.tm a
def Wk (nt ne:Nat) (σ σ' :St):Prop:=∀(c0:Cx) (h0:HF) (c:Cx) (a:Act),(∀i,h0 i≠ .nil→i<ne)→c0.n0=c0.w.heap.size→V3 c0 h0 nt σ c a→∃c',c'.w=c.w∧V3 c0 h0 nt σ' c' a
theorem Wk.rfl' {nt ne:Nat} {σ:St}:Wk nt ne σ σ:=fun _ _ c _ _ _ h=>⟨c,rfl,h⟩
theorem Wk.trans {nt ne:Nat} {σ σ1 σ2:St} (h1:Wk nt ne σ σ1) (h2:Wk nt ne σ1 σ2):Wk nt ne σ σ2:=fun c0 h0 c a he hn h=>by
 obtain ⟨c1,e1,r1⟩:=h1 c0 h0 c a he hn h;obtain ⟨c2,e2,r2⟩:=h2 c0 h0 c1 a he hn r1;exact ⟨c2,e2.trans e1,r2⟩
def AW (P:Program) (T:Dj) (nt ne:Nat) (D:List Oper→St→(St→Prop)→Prop):Code→(Exit→St→Prop)→St→Prop
 | .skip,Q,σ=>Q .normal σ
 | .label _,Q,σ=>Q .normal σ
 | .region _ ops draw,Q,σ=>if draw then D ops.toList σ (Q .normal) else EZ P T nt ops.toList ops.toList σ.nx σ.tm σ.hp (Q .normal)
 | .seq a b,Q,σ=>AW P T nt ne D a (Cr (fun σ' =>∃σ'',Wk nt ne σ' σ'' ∧AW P T nt ne D b Q σ'') Q) σ
 | .cond x a b,Q,σ=>XG (Dd σ.tm x) (AW P T nt ne D a Q σ) (AW P T nt ne D b Q σ)
 | .block i a,Q,σ=>AW P T nt ne D a (FK i Q) σ
 | .scope a,Q,σ=>AW P T nt ne D a (KL Q) σ
 | .loop a,Q,σ=>∃I:Nat→St→Prop,(∃n σ0,Wk nt ne σ σ0∧I n σ0)∧
   ∀n σ',I n σ' →AW P T nt ne D a (Cr (fun σ'' =>∃n' σ0,n' <n∧Wk nt ne σ'' σ0∧I n' σ0) Q) σ'
 | .exit i,Q,σ=>Q (.exit i) σ
 | .ret,Q,σ=>Q .ret σ
 | _,_,_=>False
def VG (c0:Cx) (h0:HF) (nt:Nat) (Q:Exit→St→Prop):Exit→Act→World→Prop:=fun e a w=>∃σ c,c.w=w∧Q e σ∧V3 c0 h0 nt σ c a
section
variable {P:Program} {T:Dj} {c0 c:Cx} {h0:HF} {nt ne:Nat}
theorem ID.ev {h:HF} {tm:List (Nat×AV)} {a:Act} (k:ID c h nt tm a) (X:Operand):AS c h (Dd tm X) (a.eval X):=by
 cases X with
 | tmp t=>exact k.tm t
 | const x=>exact .v x
 | global n=>exact .v _
 | func f=>exact .clo f [] #[] rfl fun i x y hx=>by simp at hx
theorem ID.ext {h h' :HF} {c' :Cx} {tm:List (Nat×AV)} {a:Act} (k:ID c h nt tm a) (e:pZ c h c' h'):ID c' h' nt tm a:=⟨k.sz,k.df,fun t=>(k.tm t).ext e⟩
theorem ID.put {h:HF} {tm:List (Nat×AV)} {a:Act} {dst:Option Nat} {x:AV} {y:Value} (k:ID c h nt tm a) (hd:Cg nt dst) (hx:AS c h x y):ID c h nt (Bz tm dst x) (a.put dst y):=by
 cases dst with
 | none=>exact k
 | some d =>
  have hd' :d<a.tmps.size:=by rw [k.sz];exact hd
  refine ⟨by simp [Act.put,k.sz],by simp [Act.put,k.df],fun t=> ?_⟩;simp only [Bz,GV,Act.put];by_cases h:d=t
  ·subst h;rw [if_pos rfl];simp [Array.getD_eq_getD_getElem?,hd',hx]
  ·rw [if_neg h];have:=k.tm t;simpa [Array.getD_eq_getD_getElem?,Array.getElem?_setIfInBounds_ne h] using this
theorem Bj.n0_le {c0 c:Cx} {h0 h:HF} (k:Bj c0 h0 c h) (hn:c0.n0=c0.w.heap.size):c.n0≤c.w.heap.size:=by rw [k.n0,hn];exact k.size
theorem YD (hT:CQ P T) {o:Oper} {tm:List (Nat×AV)} {hp:Hl} {nm:Nat} {K:AV→Hl→Prop} {a:Act} {Q:Exit→Act→World→Prop}
  (hA:match Du T (Dd tm) (lk hp .nil) nm o.op with
   | .bad=>False
   | .out p x us=>Cg nt o.dst∧p∧lk hp .nil nm= .nil∧K x (Eo us hp)
   | .call f xs=>Cg nt o.dst∧Ap P f xs hp nm K) (hh:BH c (lk hp .nil)) (hf:ID c (lk hp .nil) nt tm a) (hn:c.n0≤c.w.heap.size)
  {N:Act→World→Prop} (hK:∀x hp' y c',Cg nt o.dst→K x hp' →Bj c (lk hp .nil) c' (lk hp' .nil)→BH c' (lk hp' .nil)→AS c' (lk hp' .nil) x y→N (a.put o.dst y) c'.w):o.wp P a c.w N Q:=by
 cases hr:Du T (Dd tm) (lk hp .nil) nm o.op with
 | bad=>rw [hr] at hA;exact hA.elim
 | out p x us =>
  rw [hr] at hA;obtain ⟨hd,hq,hfr,hk⟩:=hA;obtain ⟨y,c',hrun,h1,h2,h3⟩:=Wn hT hh hf.ev hfr hr hq;rw [←Sp] at h1 h2 h3;unfold Oper.wp;rcases hrun with hrun | ⟨hrun,rfl⟩
  ·rw [hrun];exact hK x _ y c' hd hk h1 h2 h3
  ·rw [hrun];exact hK x _ undef c' hd hk h1 h2 h3
 | call f xs =>
  rw [hr] at hA;obtain ⟨hd,ρ,bm,R,hC,c1,c2,c3,c4⟩:=hA;obtain ⟨vals,v1,v2,hrun⟩:=RE hf.ev hC.1 hr;unfold Oper.wp;rw [hrun];simp only [Oper.upon];refine (QR (base:=nm) hC hh ⟨v1,v2⟩ c1 c2 hn c3 (fun x hl hR=>⟨(c4 x hl hR).1,(c4 x hl hR).2.1,(c4 x hl hR).2.2.1⟩)).mono ?_;rintro e w' ⟨v,x,hl,c',rfl,rfl,hR,k1,k2,k3⟩;rw [←PB] at k1 k2 k3;exact hK _ _ v c' hd (c4 x hl hR).2.2.2 k1 k2 k3
theorem WI {all:List Oper} {tm:List (Nat×AV)} {h:HF} {a:Act} {o:Oper} (hf:ID c h nt tm a):match Nv all tm o.guard with
  | .run=>Region.wanted o (yielded all.toArray a.tmps)=true
  | .skip=>Region.wanted o (yielded all.toArray a.tmps)=false
  | .ask b t want=>lk tm .any t= .v (.bool b)∧Region.wanted o (yielded all.toArray a.tmps)=(b==want)
  | .bad=>True:=by
 unfold Nv Region.wanted;cases hgd:o.guard with
 | none=>rfl
 | some gw =>
  obtain ⟨i,want⟩:=gw;simp only;unfold yielded;cases ho:all[i]? with
  | none=>simp [ho]
  | some o' =>
   cases hdst:o'.dst with
   | none=>simp [ho,hdst]
   | some t =>
    simp only [hdst];have hv:=hf.tm t;by_cases hlt:t<a.tmps.size
    ·have hat:a.tmps.getD t undef=a.tmps[t]:=by simp [Array.getD_eq_getD_getElem?,hlt]
     rw [hat] at hv;cases hb:lk tm .any t with
     | v x =>
      rw [hb] at hv;have:=As hv;cases x with
      | bool b =>
       simp only [List.getElem?_toArray,ho,Option.bind_some,hdst,hlt,getElem?_pos,this];refine ⟨hb,?_⟩;cases b<;>cases want<;>rfl
      | tuple vs=>simp only [List.getElem?_toArray,ho,Option.bind_some,hdst,hlt,getElem?_pos,this];rfl
      | _=>trivial
     | _=>trivial
    ·have hat:a.tmps.getD t undef=undef:=by simp [Array.getD_eq_getD_getElem?,hlt]
     rw [hat] at hv;have hno:a.tmps[t]? =none:=Array.getElem?_eq_none (Nat.le_of_not_lt hlt);cases hb:lk tm .any t with
     | v x =>
      rw [hb] at hv;have:=As hv;cases x with
      | bool b=>cases this
      | tuple vs=>simp only [List.getElem?_toArray,ho,Option.bind_some,hdst,hno];rfl
      | _=>trivial
     | _=>trivial
theorem ID.same {h:HF} {tm:List (Nat×AV)} {a:Act} {t:Nat} {x:AV} (k:ID c h nt tm a) (ht:lk tm .any t=x):ID c h nt (Ci tm t x) a:=⟨k.sz,k.df,fun s=>by
 rw [GV]
 split
 ·rename_i hs;subst hs;rw [←ht];exact k.tm t
 ·exact k.tm s⟩
theorem Kb (hT:CQ P T) (hn:c0.n0=c0.w.heap.size) {all:List Oper} {Q:Exit→St→Prop}:∀(os:List Oper) (nx:Nat) (tm:List (Nat×AV)) (hp:Hl) (c:Cx) (a:Act),EZ P T nt all os nx tm hp (Q .normal)→
  V3 c0 h0 nt ⟨nx,tm,hp⟩ c a→wpList P all.toArray (VG c0 h0 nt Q) os a c.w
 | [],nx,tm,hp,c,a,hA,hr=>⟨⟨nx,tm,hp⟩,c,rfl,hA,hr⟩
 | o::os,nx,tm,hp,c,a,hA,hr=>by
  refine wpList_step fun N hN=> ?_
  have run:∀tm,ID c (lk hp .nil) nt tm a→(match Du T (Dd tm) (lk hp .nil) nx o.op with
    | .bad=>False
    | .out p x us=>Cg nt o.dst∧p∧lk hp .nil nx= .nil∧EZ P T nt all os (nx+16) (Bz tm o.dst x) (Eo us hp) (Q .normal)
    | .call f xs=>Cg nt o.dst∧Ap P f xs hp nx fun x hp' =>I7 (EZ P T nt all os (nx+16) (Bz tm o.dst x) hp' (Q .normal)))→o.wp P a c.w N (VG c0 h0 nt Q):=fun tm hf hA =>
   YD hT (K:=fun x hp' =>I7 (EZ P T nt all os (nx+16) (Bz tm o.dst x) hp' (Q .normal))) hA hr.hp hf (hr.kp.n0_le hn) fun x hp' y c' h1 hK k1 k2 k3 =>
    hN _ _ (Kb hT hn os _ _ _ c' _ hK ⟨hr.kp.trans k1,k2,(hf.ext k1.ext).put h1 k3⟩)
  have skip:∀tm,ID c (lk hp .nil) nt tm a→Cg nt o.dst∧EZ P T nt all os nx (Bz tm o.dst (.v undef)) hp (Q .normal)→N (a.put o.dst undef) c.w:=fun tm hf hA =>
   hN _ _ (Kb hT hn os _ _ _ c _ hA.2 ⟨hr.kp,hr.hp,hf.put hA.1 (.v _)⟩)
  have hg:=WI (all:=all) (o:=o) hr.fr;unfold EZ at hA;simp only at hg;cases hgd:Nv all tm o.guard with
  | run =>
   rw [hgd] at hg hA;rw [if_pos hg];exact run tm hr.fr hA
  | skip =>
   rw [hgd] at hg hA;rw [if_neg (by rw [hg];exact fun h=>by cases h)];exact skip tm hr.fr hA
  | ask b t want =>
   rw [hgd] at hg hA;obtain ⟨g1,g2⟩:=hg;have hf:=hr.fr.same g1;cases b<;>cases want
   ·rw [if_pos (by rw [g2];rfl)];exact run _ hf hA
   ·rw [if_neg (by rw [g2];exact fun h=>by cases h)];exact skip _ hf hA
   ·rw [if_neg (by rw [g2];exact fun h=>by cases h)];exact skip _ hf hA
   ·rw [if_pos (by rw [g2];rfl)];exact run _ hf hA
  | bad=>rw [hgd] at hA;exact hA.elim
theorem Um {σ:St} {a:Act} {l:List (Nat×Nat)} {d nx:Nat} {ts:List Nat} (he:∀i,h0 i≠ .nil→i<ne) (hn:c0.n0=c0.w.heap.size) (hl:C0 ne l) (hr:V3 c0 h0 nt σ c a):∃c',c'.w=c.w∧V3 c0 h0 nt (Fj l d ts nx σ) c' a:=by
 obtain ⟨c2,e1,e2,e3,e4⟩:=Vn (d:=d) he hl.1 hl.2.1 hl.2.2 hn hr.kp hr.hp;refine ⟨c2,e1,e2,e3,hr.fr.sz,hr.fr.df,fun t=> ?_⟩;have key:∀ts:List Nat,AS c2 (lk (Fj l d ts nx σ).hp .nil) (lk (ts.map fun t=>(t,(lk σ.tm .any t).fin (Ex l) (frz (Ex l) (lk σ.hp .nil) d))) .any t) (a.tmps.getD t undef):=by
  intro ts;induction ts with
  | nil=>exact .any _
  | cons s ts ih =>
   simp only [List.map_cons,lk];split
   ·rename_i hs;subst hs;exact e4 _ _ (hr.fr.tm s)
   ·exact ih
 exact key ts
theorem HH {σ:St} {l:List (Nat×Nat)} {d nx:Nat} {ts:List Nat} (hl:C0 ne l):Wk nt ne σ (Fj l d ts nx σ):=fun _ _ _ _ he hn hr=>Um he hn hl hr
def Nk (P:Program) (nt:Nat) (D:List Oper→St→(St→Prop)→Prop):Prop :=
 ∀(c0:Cx) (h0:HF) (id:Nat) (ops:Array Oper) (Q:Exit→St→Prop) (σ:St) (c:Cx) (a:Act),c0.n0=c0.w.heap.size→D ops.toList σ (Q .normal)→V3 c0 h0 nt σ c a→(Code.region id ops true).wp P (VG c0 h0 nt Q) a c.w
theorem YU (hT:CQ P T) {D:List Oper→St→(St→Prop)→Prop} (hD:Nk P nt D) (he:∀i,h0 i≠ .nil→i<ne) (hn:c0.n0=c0.w.heap.size):∀(cd:Code) (Q:Exit→St→Prop) (σ:St) (c:Cx) (a:Act),
  AW P T nt ne D cd Q σ→V3 c0 h0 nt σ c a→cd.wp P (VG c0 h0 nt Q) a c.w:=by
 intro cd;induction cd with
 | skip=>exact fun Q σ c a h hr=>wp_skip ⟨σ,c,rfl,h,hr⟩
 | label l=>exact fun Q σ c a h hr=>wp_label ⟨σ,c,rfl,h,hr⟩
 | region id ops draw =>
  intro Q σ c a h hr;unfold AW at h;split at h
  ·rename_i hd;rw [hd];exact hD c0 h0 id ops Q σ c a hn h hr
  ·rename_i hd;have:draw=false:=by simpa using hd
   subst this;exact wp_region_list (by simpa using Kb hT hn ops.toList σ.nx σ.tm σ.hp c a h hr)
 | seq x y ihx ihy =>
  intro Q σ c a h hr;refine wp_seq (wp_mono (ihx _ σ c a h hr) fun e a' w' hq=> ?_);obtain ⟨σ',c',rfl,hq,hr'⟩:=hq;cases e with
  | normal =>
   obtain ⟨σ2,hw,hq⟩:=hq;obtain ⟨c2,e2,hr2⟩:=hw c0 h0 c' a' he hn hr';rw [←e2];exact ihy Q σ2 c2 a' hq hr2
  | _=>exact ⟨σ',c',rfl,hq,hr'⟩
 | cond x y z ihy ihz =>
  intro Q σ c a h hr;unfold AW XG at h;split at h
  ·rename_i b hb;have hv:=hr.fr.ev x;rw [hb] at hv;refine wp_cond_split (As hv) (fun e=>ihy Q σ c a (h.1 e) hr) (fun e=>ihz Q σ c a (h.2 e) hr)
  ·exact h.elim
 | block i x ih =>
  intro Q σ c a h hr;refine wp_block (wp_mono (ih _ σ c a h hr) fun e a' w' hq=> ?_);obtain ⟨σ',c',rfl,hq,hr'⟩:=hq;cases e with
  | exit j =>
   simp only [Exit.inBlock,FK] at hq ⊢;split
   ·rename_i hj;rw [if_pos hj] at hq;exact ⟨σ',c',rfl,hq,hr'⟩
   ·rename_i hj;rw [if_neg hj] at hq;exact ⟨σ',c',rfl,hq,hr'⟩
  | _=>exact ⟨σ',c',rfl,hq,hr'⟩
 | loop x ih =>
  intro Q σ c a h hr;obtain ⟨I,⟨n,σ0,hl,hI⟩,hround⟩:=h;obtain ⟨c2,e2,hr2⟩:=hl c0 h0 c a he hn hr;refine wp_loop_ghost (fun n a w=>∃σ c,c.w=w∧I n σ∧V3 c0 h0 nt σ c a) n ⟨_,c2,e2,hI,hr2⟩ ?_;rintro m a' w' ⟨σ',c',rfl,hI',hr'⟩;refine wp_mono (ih _ σ' c' a' (hround m σ' hI') hr') fun e a2 w2 hq=> ?_
  obtain ⟨σ2,c2,rfl,hq,hr2⟩:=hq;cases e with
  | normal =>
   obtain ⟨n',σ0,hlt,hl,hI2⟩:=hq;obtain ⟨c3,e3,hr3⟩:=hl c0 h0 c2 a2 he hn hr2;exact ⟨n',hlt,_,c3,e3,hI2,hr3⟩
  | _=>exact ⟨σ2,c2,rfl,hq,hr2⟩
 | exit i=>exact fun Q σ c a h hr=>wp_exit ⟨σ,c,rfl,h,hr⟩
 | ret=>exact fun Q σ c a h hr=>wp_ret ⟨σ,c,rfl,h,hr⟩
 | rangeFunc=>exact fun Q σ c a h hr=>h.elim
 | scope x ih =>
  intro Q σ c a h hr;refine wp_scope_straight (wp_mono (ih _ σ c a h hr) fun e a' w' hq=> ?_);obtain ⟨σ',c',rfl,hq,hr'⟩:=hq;cases e with
  | goto l=>exact hq.elim
  | _=>exact ⟨σ',c',rfl,hq,hr'⟩
 | goto=>exact fun Q σ c a h hr=>h.elim
 | refuse=>exact fun Q σ c a h hr=>h.elim
end
end Go.Proofs.YthblfhgofopcaaaGreat
