/-
  Parts of the proof: Tot, ChkH.
-/
import Derived.Test.YthblfhgofopcaaaGreatSH13
import Derived.Test.YthblfhgofopcaaaGreatSH21
set_option linter.all false
namespace Go.Proofs.YthblfhgofopcaaaGreat
open Go.RowKit
theorem Gh (l:List Int):Aj l=l.sum:=by
 induction l with
 | nil=>simp [Aj]
 | cons x l ih=>rw [In,List.sum_cons,ih]
theorem GJ :∀{l:List Int},(∀z∈l,0≤z)→0≤l.sum
 | [],_=>by simp
 | x::l,h=>by
  have h1:=h x (by simp);have:=GJ (l:=l) fun z hz=>h z (by simp [hz])
  simp;omega
theorem GG:∀(l:List Int) (n:Nat),(∀z∈l,0≤z)→(l.take n).sum≤l.sum
 | [],n,_=>by simp
 | x::l,0,h=>by
  have h1:=h x (by simp);have:=GG l 0 fun z hz=>h z (by simp [hz])
  simp at this ⊢;omega
 | x::l,n+1,h=>by
  have:=GG l n fun z hz=>h z (by simp [hz])
  simp;omega
theorem Ct {s:AL} {k:Int} (h:AT s k=true):0≤k∧k+2<AY s:=by
 unfold AT at h;simp only [Bool.and_eq_true,decide_eq_true_eq] at h;obtain ⟨h1,h2⟩:=h;cases Gj s k with
 | none e=>rw [e] at h1;simp at h1
 | other _ su r e hs=>rw [e] at h1;simp only at h1;omega
 | suit e j r e2 hj hr hk =>
  rw [e2] at h2;simp only at h2;rw [KX hj] at h2;have V:=AU e;have hs:∀z∈s.su,0≤z:=fun z hz=>by have:=V.su z hz;omega
  have h3:=GG s.su (j+1) hs;rw [List.take_succ_eq_append_getElem hj,List.sum_append] at h3;have h4:0≤(s.su.take j).sum:=GJ fun z hz=>hs z (List.mem_of_mem_take hz)
  rw [F1 e];unfold AQ;have:=V.wi;have:=V.dr;rw [Gh] at hk ⊢;simp at h3;omega
def Aq (bag:List Int) (z:Int):List Int:=bag.set z.toNat (bag.getD z.toNat 0+1)
def A5 (bag:List Int) (ks:List Int):List Int:=ks.foldl Aq bag
def Bi (bag:List Int) (me:List Gp):List Int:=me.foldl (fun b g=>A5 b (AI g.wh g.kd)) bag
theorem Cy (bag:List Int) (z:Int):(Aq bag z).length=bag.length:=by simp [Aq]
theorem Bp:∀(ks bag:List Int),(A5 bag ks).length=bag.length
 | [],bag=>rfl
 | k::ks,bag=>by show (A5 (Aq bag k) ks).length=_;rw [Bp ks,Cy]
theorem Gx {bag:List Int} {z:Int} (h0:0≤z) (h1:z<(bag.length:Int)) (i:Nat):(Aq bag z).getD i 0=bag.getD i 0+if z=(i:Int) then 1 else 0:=by
 unfold Aq;rw [RP _ _ _ _ (by omega)];by_cases h:z=(i:Int)
 ·subst h;simp
 ·rw [if_neg (by omega),if_neg h];simp
theorem CY:∀(ks bag:List Int),D8 bag.length ks→∀i,(A5 bag ks).getD i 0=bag.getD i 0+Cz ks i
 | [],bag,_,i=>by simp [A5,Cz]
 | k::ks,bag,h,i=>by
  show (A5 (Aq bag k) ks).getD i 0=_;have hk:=h k (by simp);rw [CY ks _ (fun z hz=>by rw [Cy];exact h z (by simp [hz])) i,Gx hk.1 hk.2,BW];omega
theorem DV:∀(me:List Gp) (bag:List Int),(Bi bag me).length=bag.length
 | [],bag=>rfl
 | g::me,bag=>by show (Bi (A5 bag (AI g.wh g.kd)) me).length=_;rw [DV me,Bp]
theorem FD:∀(me:List Gp) (bag:List Int),(∀g∈me,D8 bag.length (AI g.wh g.kd))→∀i,(Bi bag me).getD i 0=bag.getD i 0+B7 me i
 | [],bag,_,i=>by simp [Bi,B7]
 | g::me,bag,h,i=>by
  show (Bi (A5 bag (AI g.wh g.kd)) me).getD i 0=_;rw [FD me _ (fun y hy=>by rw [Bp];exact h y (by simp [hy])) i,CY _ _ (h g (by simp)),B7];show _+Di g i+_=_;omega
theorem Cu (ks:List Int) (i:Nat):Cz ks i≤ks.length:=by unfold Cz;have:=List.count_le_length (a:=(i:Int)) (l:=ks);omega
theorem Bt (a k:Int):(AI a k).length≤4:=by unfold AI;(repeat' split)<;>simp
theorem P7:∀(me:List Gp) (i:Nat),B7 me i≤4*me.length
 | [],i=>by simp [B7]
 | g::me,i=>by
  have h1:=P7 me i;have h2:Di g i≤_:=Cu (AI g.wh g.kd) i;have h3:=Bt g.wh g.kd;simp only [B7,List.length_cons];omega
theorem RM (l:List Int) (i:Nat) (v:Int):(l.map I).set i (I v)=(l.set i v).map I:=(List.map_set ..).symm
theorem D4 (X ks:List Int) {j:Nat} (h:j<ks.length):Aq (A5 X (ks.take j)) ks[j]=A5 X (ks.take (j+1)):=by
 show _=(ks.take (j+1)).foldl Aq X;rw [List.take_succ_eq_append_getElem h,List.foldl_append];rfl
theorem Kj (X:List Int) (me:List Gp) {k:Nat} (h:k<me.length):A5 (Bi X (me.take k)) (AI me[k].wh me[k].kd)=Bi X (me.take (k+1)):=by
 show _=(me.take (k+1)).foldl (fun b g=>A5 b (AI g.wh g.kd)) X;rw [List.take_succ_eq_append_getElem h,List.foldl_append];rfl
structure jX (X:List Int) (z:Int):Prop where
 z0:0≤z
 z1:z<(X.length:Int)
 lt:z.toNat<X.length
 up:IntKind.i64.wrap (X[z.toNat]+1)=X.getD z.toNat 0+1
 st:(X.map I).set z.toNat (I (X.getD z.toNat 0+1))=(Aq X z).map I
theorem I3 {X:List Int} {z:Int} (h0:0≤z) (h1:z<(X.length:Int)) (hX:∀i,-1000000000≤X.getD i 0∧X.getD i 0≤1000000000):jX X z:=by
 have hl:z.toNat<X.length:=by omega
 have e:X[z.toNat]=X.getD z.toNat 0:=by simp [hl]
 have:=hX z.toNat;exact ⟨h0,h1,hl,by rw [e];exact Al (by omega) (by omega),by rw [RM];rfl⟩
structure JF (s:AL) (bag:List Int) (me:List Gp):Prop where
 va:AP s=0
 ln:(bag.length:Int)=AY s
 rg:∀i,0≤bag.getD i 0∧bag.getD i 0≤1000
 gr:∀g∈me,Ak s g.wh g.kd=0
 ml:me.length≤1000
theorem JF.inb {s:AL} {bag:List Int} {me:List Gp} (h:JF s bag me) {g:Gp} (hg:g∈me):D8 bag.length (AI g.wh g.kd):=by
 obtain ⟨a1,a2,k1,k2,hr⟩:=Ng (h.gr g hg);have hl:=h.ln;intro z hz;unfold AI at hz;by_cases hw:g.wh=1
 ·rw [if_pos hw] at hz;have:=Ct (hr hw);simp at hz;omega
 ·rw [if_neg hw] at hz;(repeat' split at hz)<;>simp at hz<;>omega
theorem JF.bd {s:AL} {bag:List Int} {me:List Gp} (h:JF s bag me) {k:Nat} (hk:k≤me.length) (ks:List Int) (hks:D8 bag.length ks) (hl:ks.length≤4) (i:Nat): -1000000000≤(A5 (Bi bag (me.take k)) ks).getD i 0∧(A5 (Bi bag (me.take k)) ks).getD i 0≤1000000000:=by
 rw [CY _ _ (by rw [DV];exact hks),FD _ _ (fun g hg=>h.inb (List.mem_of_mem_take hg))];have h1:=h.rg i;have h2:=P7 (me.take k) i;have h3:=FG (me.take k) i;have h4:=Cu ks i;have h5:=Ai ks i;have h6:=h.ml;simp at h2;omega
set_option maxRecDepth 100000
set_option maxHeartbeats 2000000
theorem Oc (s:AL) (x:Hd) (b:JF s x.bag x.me):Je Tryz.prog 106 [AO s,Cb false x] (.rsl 0 1 0 x.bag.length) [(0, .arr 1 1 ((Bi x.bag x.me).map I))]:=by
 have hK:=DI b.va;have hl:=b.ln;have hml:=b.ml;refine zc Tryz.ntmps106 ?_;let tb:=Z5;(repeat first | refine zG ?_ | ((with_reducible refine AC ?_);intro K hK) | (refine zM ?_;try clear hK K))
 (refine oC (Dp x.bag (by omega)) ?_)
 (repeat first | refine zG ?_ | ((with_reducible refine AC ?_);intro K hK) | (refine zM ?_;try clear hK K))
 refine EU x.me.length (fun _=>True) (fun k=>⟨100,[(2, .ref 0 0 0 0),(5, .rsl 1 1 0 x.bag.length),(14,AX false x.me),(15,I x.me.length),(16,I k)],[(0, .arr 0 9 [AO s]),(1, .arr 1 1 ((Bi x.bag (x.me.take k)).map I))]⟩) [(0,0),(80,1)] [(0,0),(1,1)] 0 [2,5,14,15,16] 100 (BD (by decide) (by decide)) (BD (by decide) (by decide)) trivial (by exact zV) ?_;intro k hk _ J hJ;(repeat first | refine zG ?_ | ((with_reducible refine AC ?_);intro K hK) | (refine zM ?_;try clear hK K))
 refine Ac rfl ⟨fun h=> ?_,fun h=> ?_⟩
 ·have hlt:k<x.me.length:=by simpa using h
  clear h;obtain ⟨g,hg⟩:∃g,g=x.me[k]:=⟨_,rfl⟩;have hgm:g∈x.me:=by rw [hg];exact List.getElem_mem hlt
  have hge:=b.gr g hgm;have ht:BT s g.wh g.kd=AI g.wh g.kd:=by unfold BT;rw [if_pos ⟨b.va,hge⟩]
  have hin:=b.inb hgm;have hlen:=Bt g.wh g.kd;have hT:=Kj x.bag x.me hlt;rw [←hg] at hT;have hL:=DV (x.me.take k) x.bag;(have fa:=(And.intro hlt (Eq.symm hg));(repeat first | refine zG ?_ | ((with_reducible refine AC ?_);intro K hK) | (refine zM ?_;try clear hK K));(try clear fa))
  have CT:=Ep s g;rw [ht] at CT;obtain ⟨X,hX⟩:∃X,X=Bi x.bag (x.me.take k):=⟨_,rfl⟩;rw [←hX] at hL hT;obtain ⟨tl,htl⟩:∃tl,tl=AI g.wh g.kd:=⟨_,rfl⟩;rw [←htl] at hT CT hin hlen;(refine zW (CT) ?_)
  (repeat first | refine zG ?_ | ((with_reducible refine AC ?_);intro K hK) | (refine zM ?_;try clear hK K))
  refine EU tl.length (fun _=>True) (fun j=>⟨100,[(2, .ref 0 0 0 0),(5, .rsl 1 1 0 x.bag.length),(14,AX false x.me),(15,I x.me.length),(16,I k),(22,AN true tl),(23,I tl.length),(24,I j)],[(0, .arr 0 9 [AO s]),(1, .arr 1 1 ((A5 X (tl.take j)).map I))]⟩) [(0,0),(1,1)] [(0,0),(1,1)] 0 [2,5,14,15,16,22,23,24] 100 (BD (by decide) (by decide)) (BD (by decide) (by decide)) trivial (by (have fa:=(Eq.symm hX);exact zV)) ?_;intro j hj _ J' hJ';(repeat first | refine zG ?_ | ((with_reducible refine AC ?_);intro K hK) | (refine zM ?_;try clear hK K))
  refine Ac rfl ⟨fun h=> ?_,fun h=> ?_⟩
  ·have hlj:j<tl.length:=by simpa using h
   clear h;obtain ⟨z,hz⟩:∃z,z=tl[j]:=⟨_,rfl⟩;have hzi:=hin z (by rw [hz];exact List.getElem_mem hlj);have hI:=D4 X tl hlj;rw [←hz] at hI;have hY:=Bp (tl.take j) X;have hbd:=b.bd hk (tl.take j) (fun y hy=>hin y (List.mem_of_mem_take hy)) (by simp;omega);rw [←hX] at hbd;obtain ⟨Y,hYe⟩:∃Y,Y=A5 X (tl.take j):=⟨_,rfl⟩;rw [←hYe] at hI hY hbd;have hYl:Y.length=x.bag.length:=by omega
   have A:=I3 (X:=Y) (z:=z) hzi.1 (by omega) hbd;have a1:z<(x.bag.length:Int):=hzi.2;(have fa:=(And.intro hlj (And.intro (Eq.symm hz) (And.intro (Eq.symm hYe) (And.intro A.z0 (And.intro a1 (And.intro A.lt (And.intro A.up (And.intro A.st (BK (show j<9223372036854775807 by omega))))))))));(repeat first | refine zG ?_ | ((with_reducible refine AC ?_);intro K hK) | (refine zM ?_;try clear hK K));(try clear fa))
   refine hJ' _ hlj trivial (by (have fa:=hI;exact zV))
  ·have hj' :j=tl.length:=by have:¬j<tl.length:=by simpa using h
                             omega
   subst hj';clear h;(have fa:=(BK (show k<9223372036854775807 by omega));(repeat first | refine zG ?_ | ((with_reducible refine AC ?_);intro K hK) | (refine zM ?_;try clear hK K));(try clear fa))
   refine hJ _ hlt trivial (by (have fa:=hT;exact zV))
 ·have hk' :k=x.me.length:=by have:¬k<x.me.length:=by simpa using h
                              omega
  subst hk';clear h;(repeat first | refine zG ?_ | ((with_reducible refine AC ?_);intro K hK) | (refine zM ?_;try clear hK K))
  refine EH ?_;refine ⟨.inr rfl,?_,[(1,0)],2,BD (by decide) (by decide),?_⟩<;>(first | exact AK | refine zE ?_)
set_option maxRecDepth 100000
set_option maxHeartbeats 2000000
theorem Mr (s:AL) (x:Hd) (b:JF s x.bag x.me):Je Tryz.prog 102 [Cb false x] (.rsl 0 1 0 x.bag.length) [(0, .arr 1 1 ((Bi x.bag x.me).map I))]:=by
 have hK:=DI b.va;have hl:=b.ln;have hml:=b.ml;have l1:x.bag.length≤1000000000000:=by omega
 refine zc Tryz.ntmps102 ?_;let tb:=aV;(have fa:=l1;(repeat first | refine zG ?_ | ((with_reducible refine AC ?_);intro K hK) | (refine zM ?_;try clear hK K));(try clear fa))
 refine EU x.me.length (fun _=>True) (fun k=>⟨100,[(1, .ref 0 0 0 0),(3, .rsl 1 1 0 x.bag.length),(4,I k)],[(0, .arr 0 2 [Cb false x]),(1, .arr 1 1 ((Bi x.bag (x.me.take k)).map I))]⟩) [(0,0),(32,1)] [(0,0),(1,1)] 0 [1,3,4] 100 (BD (by decide) (by decide)) (BD (by decide) (by decide)) trivial (by exact zV) ?_;intro k hk _ J hJ;(repeat first | refine zG ?_ | ((with_reducible refine AC ?_);intro K hK) | (refine zM ?_;try clear hK K))
 refine Ac rfl ⟨fun h=> ?_,fun h=> ?_⟩
 ·have hlt:k<x.me.length:=by simpa using h
  clear h;obtain ⟨g,hg⟩:∃g,g=x.me[k]:=⟨_,rfl⟩;have hgm:g∈x.me:=by rw [hg];exact List.getElem_mem hlt
  have hge:=b.gr g hgm;have hin:=b.inb hgm;have hlen:=Bt g.wh g.kd;have hT:=Kj x.bag x.me hlt;rw [←hg] at hT;have hL:=DV (x.me.take k) x.bag;(have fa:=(And.intro hlt (Eq.symm hg));(repeat first | refine zG ?_ | ((with_reducible refine AC ?_);intro K hK) | (refine zM ?_;try clear hK K));(try clear fa))
  have CT:=EQ g (Ng hge).2.2.1 (by have:=(Ng hge).2.2.2.1;omega);obtain ⟨X,hX⟩:∃X,X=Bi x.bag (x.me.take k):=⟨_,rfl⟩;rw [←hX] at hL hT;obtain ⟨tl,htl⟩:∃tl,tl=AI g.wh g.kd:=⟨_,rfl⟩;rw [←htl] at hT CT hin hlen;(refine zW (CT) ?_)
  (repeat first | refine zG ?_ | ((with_reducible refine AC ?_);intro K hK) | (refine zM ?_;try clear hK K))
  refine EU tl.length (fun _=>True) (fun j=>⟨100,[(1, .ref 0 0 0 0),(3, .rsl 1 1 0 x.bag.length),(4,I k),(5,AN true tl),(6,I j)],[(0, .arr 0 2 [Cb false x]),(1, .arr 1 1 ((A5 X (tl.take j)).map I))]⟩) [(0,0),(1,1)] [(0,0),(1,1)] 0 [1,3,4,5,6] 100 (BD (by decide) (by decide)) (BD (by decide) (by decide)) trivial (by (have fa:=(Eq.symm hX);exact zV)) ?_;intro j hj _ J' hJ';(repeat first | refine zG ?_ | ((with_reducible refine AC ?_);intro K hK) | (refine zM ?_;try clear hK K))
  refine Ac rfl ⟨fun h=> ?_,fun h=> ?_⟩
  ·have hlj:j<tl.length:=by simpa using h
   clear h;obtain ⟨z,hz⟩:∃z,z=tl[j]:=⟨_,rfl⟩;have hzi:=hin z (by rw [hz];exact List.getElem_mem hlj);have hI:=D4 X tl hlj;rw [←hz] at hI;have hY:=Bp (tl.take j) X;have hbd:=b.bd hk (tl.take j) (fun y hy=>hin y (List.mem_of_mem_take hy)) (by simp;omega);rw [←hX] at hbd;obtain ⟨Y,hYe⟩:∃Y,Y=A5 X (tl.take j):=⟨_,rfl⟩;rw [←hYe] at hI hY hbd;have A:=I3 (X:=Y) (z:=z) hzi.1 (by omega) hbd;have a1:z<(x.bag.length:Int):=hzi.2;(have fa:=(And.intro hlj (And.intro (Eq.symm hz) (And.intro (Eq.symm hYe) (And.intro A.z0 (And.intro a1 (And.intro A.lt (And.intro A.up (And.intro A.st (BK (show j<9223372036854775807 by omega))))))))));(repeat first | refine zG ?_ | ((with_reducible refine AC ?_);intro K hK) | (refine zM ?_;try clear hK K));(try clear fa))
   refine hJ' _ hlj trivial (by (have fa:=hI;exact zV))
  ·have hj' :j=tl.length:=by have:¬j<tl.length:=by simpa using h
                             omega
   subst hj';clear h;(have fa:=(BK (show k<9223372036854775807 by omega));(repeat first | refine zG ?_ | ((with_reducible refine AC ?_);intro K hK) | (refine zM ?_;try clear hK K));(try clear fa))
   refine hJ _ hlt trivial (by (have fa:=hT;exact zV))
 ·have hk' :k=x.me.length:=by have:¬k<x.me.length:=by simpa using h
                              omega
  subst hk';clear h;(repeat first | refine zG ?_ | ((with_reducible refine AC ?_);intro K hK) | (refine zM ?_;try clear hK K))
  refine EH ?_;refine ⟨.inr rfl,?_,[(1,0)],2,BD (by decide) (by decide),?_⟩<;>(first | exact AK | refine zE ?_)
def EJ (s:AL):List Gp→Int
 | []=>0
 | g::l=>if BJ s g≠0 then BJ s g else EJ s l
def By (s:AL) (l:List Gp):Int:=if s.me<(l.length:Int) then 8 else EJ s l
theorem LD {s:AL} {l:List Gp} {k:Nat} (h:k<l.length):EJ s (l.drop k)=if BJ s l[k]≠0 then BJ s l[k] else EJ s (l.drop (k+1)):=by
 rw [List.drop_eq_getElem_cons h,EJ]
theorem Lk (s:AL) (l:List Gp) (hl:l.length≤1000000):AM Tryz.prog 105 [AO s,AX false l] (I (By s l)):=by
 refine zc Tryz.ntmps105 ?_;let tb:=Zl;(repeat first | refine zG ?_ | ((with_reducible refine AC ?_);intro K hK) | (refine zM ?_;try clear hK K))
 refine Ac rfl ⟨fun h=> ?_,fun h=> ?_⟩
 ·have h1:s.me<(l.length:Int):=by simpa using h
  (repeat first | refine zG ?_ | ((with_reducible refine AC ?_);intro K hK) | (refine zM ?_;try clear hK K))
  refine DL ?_ ?_<;>(first | exact AK | refine zE ?_);simp [By,h1]
 ·have h1:¬s.me<(l.length:Int):=by simpa using h
  clear h;have hm:By s l=EJ s l:=by simp [By,h1]
  (repeat first | refine zG ?_ | ((with_reducible refine AC ?_);intro K hK) | (refine zM ?_;try clear hK K))
  refine EU l.length (fun k=>EJ s l=EJ s (l.drop k)) (fun k=>⟨100,[(2, .ref 0 0 0 0),(13,AX false l),(14,I l.length),(15,I k)],[(0, .arr 0 9 [AO s])]⟩) [(0,0)] [(0,0)] 0 [2,13,14,15] 100 (BD (by decide) (by decide)) (BD (by decide) (by decide)) rfl (by exact zV) ?_;intro k hk hR J hJ;(repeat first | refine zG ?_ | ((with_reducible refine AC ?_);intro K hK) | (refine zM ?_;try clear hK K))
  refine Ac rfl ⟨fun h=> ?_,fun h=> ?_⟩
  ·have hlt:k<l.length:=by simpa using h
   clear h;have hd:=LD (s:=s) hlt;obtain ⟨g,hg⟩:∃g,g=l[k]:=⟨_,rfl⟩;rw [←hg] at hd;have fin:∀(e:Int) (σ:St),BJ s g=e→True:=fun _ _ _=>trivial
   have wk:=BK (show k<9223372036854775807 by omega);(have fa:=(And.intro hlt (Eq.symm hg));(repeat first | refine zG ?_ | ((with_reducible refine AC ?_);intro K hK) | (refine zM ?_;try clear hK K));(try clear fa))
   (refine zW (FT s g) ?_)
   (repeat first | refine zG ?_ | ((with_reducible refine AC ?_);intro K hK) | (refine zM ?_;try clear hK K))
   refine Ac rfl ⟨fun h=> ?_,fun h=> ?_⟩
   ·have h3:3<g.wh:=by simpa using h
    have he:BJ s g=4:=by simp [BJ,h3]
    (repeat first | refine zG ?_ | ((with_reducible refine AC ?_);intro K hK) | (refine zM ?_;try clear hK K))
    refine DL ?_ ?_<;>(first | exact AK | refine zE ?_);rw [hm,hR,hd,he];rfl
   ·have h3:¬3<g.wh:=by simpa using h
    clear h;by_cases h0:Ak s g.wh g.kd=0
    ·have e0:(Ak s g.wh g.kd==0)=true:=by simp [h0]
     by_cases h4:g.wh=3
     ·have e4:(g.wh != 3)=false:=by simp [h4]
      have he:BJ s g=0:=by unfold BJ;rw [if_neg h3,if_neg (by omega),if_neg (by simp [h4])]
      have e5:(Ak s g.wh g.kd != 0)=false:=by simp [h0]
      (have fa:=(And.intro e0 (And.intro e4 (And.intro e5 wk)));(repeat first | refine zG ?_ | ((with_reducible refine AC ?_);intro K hK) | (refine zM ?_;try clear hK K));(try clear fa))
      refine hJ _ hlt ?_ (by exact zV);rw [hR,hd,he];rfl
     ·have e4:(g.wh != 3)=true:=by simp [h4]
      by_cases ho:g.op=true
      ·have he:BJ s g=0:=by simp [BJ,h0,h3,ho]
       have e5:(Ak s g.wh g.kd != 0)=false:=by simp [h0]
       (have fa:=(And.intro e0 (And.intro e4 (And.intro e5 (And.intro ho (And.intro Bool.not_true wk)))));(repeat first | refine zG ?_ | ((with_reducible refine AC ?_);intro K hK) | (refine zM ?_;try clear hK K));(try clear fa))
       refine hJ _ hlt ?_ (by exact zV);rw [hR,hd,he];rfl
      ·have ho:g.op=false:=by simpa using ho
       have he:BJ s g=3:=by simp [BJ,h0,h3,h4,ho]
       (have fa:=(And.intro e0 (And.intro e4 (And.intro ho Bool.not_false)));(repeat first | refine zG ?_ | ((with_reducible refine AC ?_);intro K hK) | (refine zM ?_;try clear hK K));(try clear fa))
       refine DL ?_ ?_<;>(first | exact AK | refine zE ?_);rw [hm,hR,hd,he];rfl
    ·have e0:(Ak s g.wh g.kd==0)=false:=by simp [h0]
     have e5:(Ak s g.wh g.kd != 0)=true:=by simp [h0]
     have he:BJ s g=Ak s g.wh g.kd:=by simp [BJ,h0,h3]
     (have fa:=(And.intro e0 e5);(repeat first | refine zG ?_ | ((with_reducible refine AC ?_);intro K hK) | (refine zM ?_;try clear hK K));(try clear fa))
     refine DL ?_ ?_<;>(first | exact AK | refine zE ?_);rw [hm,hR,hd,he,if_pos h0]
  ·have hk' :k=l.length:=by have:¬k<l.length:=by simpa using h
                            omega
   subst hk';clear h;(repeat first | refine zG ?_ | ((with_reducible refine AC ?_);intro K hK) | (refine zM ?_;try clear hK K))
   refine DL ?_ ?_<;>(first | exact AK | refine zE ?_);rw [hm,hR,List.drop_length];rfl
end Go.Proofs.YthblfhgofopcaaaGreat
