/-
  Parts of the proof: HandV, HandP, FullV, Knd, FmV.
-/
import Derived.Test.YthblfhgofopcaaaGreatSH13
import Derived.Test.YthblfhgofopcaaaGreatSH22
import Derived.Test.YthblfhgofopcaaaGreatSH17
import Derived.Test.YthblfhgofopcaaaGreatSH14
import Derived.Test.YthblfhgofopcaaaGreatSH15
import Derived.Test.YthblfhgofopcaaaGreatSH11
set_option linter.all false
namespace Go.Proofs.YthblfhgofopcaaaGreat
open Go.RowKit
set_option maxRecDepth 100000
set_option maxHeartbeats 2000000
def Ag (s:AL) (x:Hd):Int :=
 if AP s≠0 then AP s else if Be s x.bag≠0 then Be s x.bag else if By s x.me≠0 then By s x.me
 else if (Bi x.bag x.me).any (fun z=>decide (s.co<z))=true then 8 else if x.bag.sum<3*(s.me-x.me.length)+1 then 6 else if 3*(s.me-x.me.length)+2<x.bag.sum then 5 else 0
theorem K7 {s:AL}:∀{l:List Gp},EJ s l=0→∀g∈l,BJ s g=0
 | [],_,g,h=>by cases h
 | x::l,h0,g,h=>by
  unfold EJ at h0;split at h0
  ·rename_i hx;exact absurd h0 hx
  ·rename_i hx;rcases List.mem_cons.1 h with rfl | h
   ·omega
   ·exact K7 h0 g h
theorem Md {s:AL} {g:Gp} (h:BJ s g=0):Ak s g.wh g.kd=0:=by
 unfold BJ at h;split at h
 ·cases h
 ·split at h
  ·rename_i h2;exact absurd h h2
  ·rename_i h2;omega
theorem Ha {s:AL} {zs:List Int} (h:Be s zs=0):(zs.length:Int)=AY s∧∀z∈zs,0≤z∧z≤s.co:=by
 unfold Be at h;split at h
 ·cases h
 ·split at h
  ·cases h
  ·rename_i h1 h2;refine ⟨by omega,fun z hz=> ?_⟩;have:=fun hf=>h2 (List.any_eq_true.2 ⟨z,hz,hf⟩)
   unfold F8 at this;simp at this;omega
theorem Lu {zs:List Int} {P:Int→Prop} (h:∀z∈zs,P z) (h0:P 0) (i:Nat):P (zs.getD i 0):=by
 by_cases hi:i<zs.length
 ·simp [hi];exact h _ (List.getElem_mem hi)
 ·simp [hi];exact h0
theorem MJ {s:AL} {x:Hd} (h1:AP s=0) (h2:Be s x.bag=0) (h3:By s x.me=0):JF s x.bag x.me:=by
 have V:=AU h1;obtain ⟨k1,k2⟩:=Ha h2;have hco:=V.co;have hme:=V.me;unfold By at h3;split at h3
 ·cases h3
 ·exact ⟨h1,k1,fun i=>Lu (P:=fun z=>0≤z∧z≤1000) (fun z hz=>by have:=k2 z hz;omega) (by omega) i,fun g hg=>Md (K7 h3 g hg),by omega⟩
theorem D0 {α:Type} {l:List α} {p:α→Bool} (h:∀i,(hi:i<l.length)→p l[i]=false):l.any p=false:=by
 rw [List.any_eq_false];intro x hx;obtain ⟨i,hi,rfl⟩:=List.mem_iff_getElem.1 hx;rw [h i hi];simp
theorem EX {α:Type} {l:List α} {p:α→Bool} {i:Nat} (hi:i<l.length) (h:p l[i]=true):l.any p=true:=List.any_eq_true.2 ⟨_,List.getElem_mem hi,h⟩
theorem FQ (s:AL) (x:Hd) (h1:x.me.length≤1000000):AM Tryz.prog 53 [AO s,Cb false x] (I (Ag s x)):=by
 by_cases c1:AP s=0
 ·have e1:(AP s != 0)=false:=by simp [c1]
  by_cases c2:Be s x.bag=0
  ·have e2:(Be s x.bag != 0)=false:=by simp [c2]
   have V:=AU c1;obtain ⟨k1,k2⟩:=Ha c2;have hK:=DI c1;have hco:=V.co;have hme:=V.me;have hsum:JM x.bag=x.bag.sum:=G6 (m:=4) (fun z hz=>by have:=k2 z hz;omega) (by omega) (by omega);have hsb:=EN (zs:=x.bag) (m:=4) fun z hz=>by have:=k2 z hz;omega
   by_cases c3:s.me<(x.me.length:Int)
   ·have he:Ag s x=8:=by simp [Ag,c1,c2,By,c3]
    have e3:decide ((x.me.length:Int)>s.me)=true:=by simp;omega
    refine zc Tryz.ntmps53 ?_;let tb:=PA;(repeat first | refine zG ?_ | ((with_reducible refine AC ?_);intro K hK) | (refine zM ?_;try clear hK K))
    (refine zW (Bk s) ?_)
    (have fa:=e1;(repeat first | refine zG ?_ | ((with_reducible refine AC ?_);intro K hK) | (refine zM ?_;try clear hK K));(try clear fa))
    (refine zW (Hb s x.bag) ?_)
    (have fa:=(And.intro e2 e3);(repeat first | refine zG ?_ | ((with_reducible refine AC ?_);intro K hK) | (refine zM ?_;try clear hK K));(try clear fa))
    refine DL ?_ ?_<;>(first | exact AK | refine zE ?_);rw [he]
   ·have e3:decide ((x.me.length:Int)>s.me)=false:=by simp;omega
    have hm:By s x.me=EJ s x.me:=by simp [By,c3]
    refine zc Tryz.ntmps53 ?_;let tb:=PA;(repeat first | refine zG ?_ | ((with_reducible refine AC ?_);intro K hK) | (refine zM ?_;try clear hK K))
    (refine zW (Bk s) ?_)
    (have fa:=e1;(repeat first | refine zG ?_ | ((with_reducible refine AC ?_);intro K hK) | (refine zM ?_;try clear hK K));(try clear fa))
    (refine zW (Hb s x.bag) ?_)
    (have fa:=(And.intro e2 e3);(repeat first | refine zG ?_ | ((with_reducible refine AC ?_);intro K hK) | (refine zM ?_;try clear hK K));(try clear fa))
    refine EU x.me.length (fun k=>EJ s x.me=EJ s (x.me.drop k)) (fun k=>⟨100,[(2, .ref 0 0 0 0),(3, .ref 1 0 0 0),(7,I k)],[(0, .arr 0 9 [AO s]),(1, .arr 0 2 [Cb false x])]⟩) [(0,0),(16,1)] [(0,0),(1,1)] 0 [2,3,7] 100 (BD (by decide) (by decide)) (BD (by decide) (by decide)) rfl (by exact zV) ?_;intro k hk hR J hJ;(repeat first | refine zG ?_ | ((with_reducible refine AC ?_);intro K hK) | (refine zM ?_;try clear hK K))
    refine Ac rfl ⟨fun h=> ?_,fun h=> ?_⟩
    ·have hlt:k<x.me.length:=by simpa using h
     clear h;have hd:=LD (s:=s) hlt;obtain ⟨g,hg⟩:∃g,g=x.me[k]:=⟨_,rfl⟩;rw [←hg] at hd;(have fa:=(And.intro hlt (Eq.symm hg));(repeat first | refine zG ?_ | ((with_reducible refine AC ?_);intro K hK) | (refine zM ?_;try clear hK K));(try clear fa))
     (refine zD (Ls s g) ?_)
     by_cases c4:BJ s g=0
     ·have e4:(BJ s g != 0)=false:=by simp [c4]
      rw [if_neg (by omega)] at hd;(have fa:=(And.intro e4 (BK (show k<9223372036854775807 by omega)));(repeat first | refine zG ?_ | ((with_reducible refine AC ?_);intro K hK) | (refine zM ?_;try clear hK K));(try clear fa))
      refine hJ _ hlt (hR.trans hd) (by exact zV)
     ·have e4:(BJ s g != 0)=true:=by simp [c4]
      rw [if_pos c4] at hd;(have fa:=e4;(repeat first | refine zG ?_ | ((with_reducible refine AC ?_);intro K hK) | (refine zM ?_;try clear hK K));(try clear fa))
      refine DL ?_ ?_<;>(first | exact AK | refine zE ?_);have he:Ag s x=BJ s g:=by simp [Ag,c1,c2,hm,hR,hd,c4]
      rw [he]
    ·have hk' :k=x.me.length:=by have:¬k<x.me.length:=by simpa using h
                                 omega
     subst hk';clear h;rw [List.drop_length] at hR;have hm0:By s x.me=0:=by rw [hm,hR];rfl
     have b:=MJ c1 c2 hm0;have hTl:=DV x.me x.bag;obtain ⟨T,hT⟩:∃T,T=Bi x.bag x.me:=⟨_,rfl⟩;have CT:=Mr s x b;rw [←hT] at CT hTl;have hH:Ag s x=if T.any (fun z=>decide (s.co<z))=true then 8 else if x.bag.sum<3*(s.me-x.me.length)+1 then 6 else if 3*(s.me-x.me.length)+2<x.bag.sum then 5 else 0:=by
      simp [Ag,c1,c2,hm0,hT]
     (repeat first | refine zG ?_ | ((with_reducible refine AC ?_);intro K hK) | (refine zM ?_;try clear hK K))
     (refine oC (CT) ?_)
     (repeat first | refine zG ?_ | ((with_reducible refine AC ?_);intro K hK) | (refine zM ?_;try clear hK K))
     have hT2:T.take x.bag.length=T:=by rw [←hTl,List.take_length]
     have hT3:x.bag.length≤T.length:=by omega
     refine EU T.length (fun k=>∀i,(hi:i<T.length)→i<k→decide (s.co<T[i])=false) (fun k=>⟨300,[(2, .ref 0 0 0 0),(3, .ref 1 0 0 0),(9,AN true T),(10,I k)],[(0, .arr 0 9 [AO s]),(1, .arr 0 2 [Cb false x])]⟩) [(0,0),(1,1)] [(0,0),(1,1)] 1 [2,3,9,10] 300 (BD (by decide) (by decide)) (BD (by decide) (by decide)) (fun i _ h=>absurd h (Nat.not_lt_zero i)) (by (have fa:=(And.intro hT2 hT3);exact zV)) ?_;intro j hj hR2 J2 hJ2;(repeat first | refine zG ?_ | ((with_reducible refine AC ?_);intro K hK) | (refine zM ?_;try clear hK K))
     refine Ac rfl ⟨fun h=> ?_,fun h=> ?_⟩
     ·have hlj:j<T.length:=by simpa using h
      clear h;by_cases c5:s.co<T[j]
      ·have e5:decide (T[j]>s.co)=true:=by simp;omega
       have ha:T.any (fun z=>decide (s.co<z))=true:=EX hlj (by simpa using c5);(have fa:=(And.intro hlj e5);(repeat first | refine zG ?_ | ((with_reducible refine AC ?_);intro K hK) | (refine zM ?_;try clear hK K));(try clear fa))
       refine DL ?_ ?_<;>(first | exact AK | refine zE ?_);rw [hH,if_pos ha]
      ·have e5:decide (T[j]>s.co)=false:=by simp;omega
       (have fa:=(And.intro hlj (And.intro e5 (BK (show j<9223372036854775807 by omega))));(repeat first | refine zG ?_ | ((with_reducible refine AC ?_);intro K hK) | (refine zM ?_;try clear hK K));(try clear fa))
       refine hJ2 _ hlj (fun i hi h3=> ?_) (by exact zV);by_cases hij:i=j
       ·subst hij;simp;omega
       ·exact hR2 i hi (by omega)
     ·have hj' :j=T.length:=by have:¬j<T.length:=by simpa using h
                               omega
      subst hj';clear h;have ha:T.any (fun z=>decide (s.co<z))=false:=D0 fun i hi=>hR2 i hi hi
      rw [if_neg (by simp [ha])] at hH;have w1:IntKind.i64.wrap (s.me-(x.me.length:Int))=s.me-x.me.length:=Al (by omega) (by omega);have w2:IntKind.i64.wrap (3*(s.me-(x.me.length:Int)))=3*(s.me-x.me.length):=Al (by omega) (by omega);have w3:IntKind.i64.wrap (3*(s.me-(x.me.length:Int))+1)=3*(s.me-x.me.length)+1:=Al (by omega) (by omega);have w4:IntKind.i64.wrap (3*(s.me-(x.me.length:Int))+1+1)=3*(s.me-x.me.length)+2:=by rw [Al (by omega) (by omega)];omega
      (have fa:=(And.intro w1 (And.intro w2 w3));(repeat first | refine zG ?_ | ((with_reducible refine AC ?_);intro K hK) | (refine zM ?_;try clear hK K));(try clear fa))
      (refine zW (IZ x.bag (by omega)) ?_)
      by_cases c6:x.bag.sum<3*(s.me-x.me.length)+1
      ·have e6:decide (x.bag.sum<3*(s.me-(x.me.length:Int))+1)=true:=by simp;omega
       (have fa:=(And.intro hsum e6);(repeat first | refine zG ?_ | ((with_reducible refine AC ?_);intro K hK) | (refine zM ?_;try clear hK K));(try clear fa))
       refine DL ?_ ?_<;>(first | exact AK | refine zE ?_);rw [hH,if_pos c6]
      ·have e6:decide (x.bag.sum<3*(s.me-(x.me.length:Int))+1)=false:=by simp;omega
       (have fa:=(And.intro hsum e6);(repeat first | refine zG ?_ | ((with_reducible refine AC ?_);intro K hK) | (refine zM ?_;try clear hK K));(try clear fa))
       (refine zW (IZ x.bag (by omega)) ?_)
       by_cases c7:3*(s.me-x.me.length)+2<x.bag.sum
       ·have e7:decide (x.bag.sum>3*(s.me-(x.me.length:Int))+2)=true:=by simp;omega
        (have fa:=(And.intro hsum (And.intro w4 e7));(repeat first | refine zG ?_ | ((with_reducible refine AC ?_);intro K hK) | (refine zM ?_;try clear hK K));(try clear fa))
        refine DL ?_ ?_<;>(first | exact AK | refine zE ?_);rw [hH,if_neg c6,if_pos c7]
       ·have e7:decide (x.bag.sum>3*(s.me-(x.me.length:Int))+2)=false:=by simp;omega
        (have fa:=(And.intro hsum (And.intro w4 e7));(repeat first | refine zG ?_ | ((with_reducible refine AC ?_);intro K hK) | (refine zM ?_;try clear hK K));(try clear fa))
        refine DL ?_ ?_<;>(first | exact AK | refine zE ?_);rw [hH,if_neg c6,if_neg c7]
  ·have e2:(Be s x.bag != 0)=true:=by simp [c2]
   refine zc Tryz.ntmps53 ?_;let tb:=PA;(repeat first | refine zG ?_ | ((with_reducible refine AC ?_);intro K hK) | (refine zM ?_;try clear hK K))
   (refine zW (Bk s) ?_)
   (have fa:=e1;(repeat first | refine zG ?_ | ((with_reducible refine AC ?_);intro K hK) | (refine zM ?_;try clear hK K));(try clear fa))
   (refine zW (Hb s x.bag) ?_)
   (have fa:=e2;(repeat first | refine zG ?_ | ((with_reducible refine AC ?_);intro K hK) | (refine zM ?_;try clear hK K));(try clear fa))
   refine DL ?_ ?_<;>(first | exact AK | refine zE ?_);simp [Ag,c1,c2]
 ·have e1:(AP s != 0)=true:=by simp [c1]
  refine zc Tryz.ntmps53 ?_;let tb:=PA;(repeat first | refine zG ?_ | ((with_reducible refine AC ?_);intro K hK) | (refine zM ?_;try clear hK K))
  (refine zW (Bk s) ?_)
  (have fa:=e1;(repeat first | refine zG ?_ | ((with_reducible refine AC ?_);intro K hK) | (refine zM ?_;try clear hK K));(try clear fa))
  refine DL ?_ ?_<;>(first | exact AK | refine zE ?_);simp [Ag,c1]
theorem D9 (l:List Int) {k:Nat} (h:k<l.length):(l.take (k+1)).sum=(l.take k).sum+l[k]:=by
 rw [List.take_succ_eq_append_getElem h,List.sum_append];simp
theorem Dk (s:AL) (x:Hd) (h1:x.me.length≤1000000) (h2:x.bag.length≤1000000):AM Tryz.prog 41 [AO s,Cb false x] (I (Ag s x)):=by
 by_cases c1:AP s=0
 ·have e1:(AP s != 0)=false:=by simp [c1]
  have V:=AU c1;have hK:=DI c1;have hco:=V.co;have hme:=V.me;by_cases cl:(x.bag.length:Int)=AY s
  ·have el:((x.bag.length:Int) != AY s)=false:=by simp [cl]
   refine zc Tryz.ntmps41 ?_;let tb:=Sr;(repeat first | refine zG ?_ | ((with_reducible refine AC ?_);intro K hK) | (refine zM ?_;try clear hK K))
   (refine zW (Bv s) ?_)
   (have fa:=e1;(repeat first | refine zG ?_ | ((with_reducible refine AC ?_);intro K hK) | (refine zM ?_;try clear hK K));(try clear fa))
   (refine zD (ED s) ?_)
   (have fa:=el;(repeat first | refine zG ?_ | ((with_reducible refine AC ?_);intro K hK) | (refine zM ?_;try clear hK K));(try clear fa))
   refine EU x.bag.length (fun k=>∀i,(hi:i<x.bag.length)→i<k→F8 s.co x.bag[i]=false) (fun k=>⟨300,[(2, .ref 0 0 0 0),(3, .ref 1 0 0 0),(25,AN false x.bag),(26,I x.bag.length),(27,I k)],[(0, .arr 0 9 [AO s]),(1, .arr 0 2 [Cb false x])]⟩) [(0,0),(16,1)] [(0,0),(1,1)] 0 [2,3,25,26,27] 300 (BD (by decide) (by decide)) (BD (by decide) (by decide)) (fun i _ h=>absurd h (Nat.not_lt_zero i)) (by exact zV) ?_;intro k hk hR J hJ;(repeat first | refine zG ?_ | ((with_reducible refine AC ?_);intro K hK) | (refine zM ?_;try clear hK K))
   refine Ac rfl ⟨fun h=> ?_,fun h=> ?_⟩
   ·have hlt:k<x.bag.length:=by simpa using h
    clear h;obtain ⟨z,hz⟩:∃z,z=x.bag[k]:=⟨_,rfl⟩;by_cases z0:z<0
    ·have e2:decide (z<0)=true:=by simp [z0]
     have hc:Be s x.bag=2:=by unfold Be;rw [if_neg (by omega),if_pos (EX hlt (by rw [←hz];simp [F8,z0]))]
     (have fa:=(And.intro hlt (And.intro (Eq.symm hz) e2));(repeat first | refine zG ?_ | ((with_reducible refine AC ?_);intro K hK) | (refine zM ?_;try clear hK K));(try clear fa))
     refine DL ?_ ?_<;>(first | exact AK | refine zE ?_);simp [Ag,c1,hc]
    ·have e2:decide (z<0)=false:=by simp [z0]
     by_cases z1:s.co<z
     ·have e3:decide (z>s.co)=true:=by simp;omega
      have hc:Be s x.bag=2:=by unfold Be;rw [if_neg (by omega),if_pos (EX hlt (by rw [←hz];simp [F8,z1]))]
      (have fa:=(And.intro hlt (And.intro (Eq.symm hz) (And.intro e2 e3)));(repeat first | refine zG ?_ | ((with_reducible refine AC ?_);intro K hK) | (refine zM ?_;try clear hK K));(try clear fa))
      refine DL ?_ ?_<;>(first | exact AK | refine zE ?_);simp [Ag,c1,hc]
     ·have e3:decide (z>s.co)=false:=by simp;omega
      (have fa:=(And.intro hlt (And.intro (Eq.symm hz) (And.intro e2 (And.intro e3 (BK (show k<9223372036854775807 by omega))))));(repeat first | refine zG ?_ | ((with_reducible refine AC ?_);intro K hK) | (refine zM ?_;try clear hK K));(try clear fa))
      refine hJ _ hlt (fun i hi h3=> ?_) (by exact zV);by_cases hij:i=k
      ·subst hij;rw [←hz];simp [F8];omega
      ·exact hR i hi (by omega)
   ·have hk' :k=x.bag.length:=by have:¬k<x.bag.length:=by simpa using h
                                 omega
    subst hk';clear h;have c2:Be s x.bag=0:=by unfold Be;rw [if_neg (by omega),if_neg (by rw [D0 fun i hi=>hR i hi hi];simp)]
    obtain ⟨k1,k2⟩:=Ha c2;have hsb:∀n,0≤(x.bag.take n).sum∧(x.bag.take n).sum≤240:=fun n=>by
     have:=EN (zs:=x.bag.take n) (m:=4) fun z hz=>by have:=k2 z (List.mem_of_mem_take hz);omega
     simp at this;omega
    (repeat first | refine zG ?_ | ((with_reducible refine AC ?_);intro K hK) | (refine zM ?_;try clear hK K))
    (refine zW (Lk s x.me h1) ?_)
    by_cases c3:By s x.me=0
    ·have e3:(By s x.me != 0)=false:=by simp [c3]
     have hml:(x.me.length:Int)≤s.me:=by unfold By at c3;split at c3;cases c3;omega
     have b:=MJ c1 c2 c3;have hTl:=DV x.me x.bag;obtain ⟨T,hT⟩:∃T,T=Bi x.bag x.me:=⟨_,rfl⟩;have CT:=Oc s x b;rw [←hT] at CT hTl;have hH:Ag s x=if T.any (fun z=>decide (s.co<z))=true then 8 else if x.bag.sum<3*(s.me-x.me.length)+1 then 6 else if 3*(s.me-x.me.length)+2<x.bag.sum then 5 else 0:=by
      simp [Ag,c1,c2,c3,hT]
     have hT2:T.take x.bag.length=T:=by rw [←hTl,List.take_length]
     have hT3:x.bag.length≤T.length:=by omega
     (have fa:=e3;(repeat first | refine zG ?_ | ((with_reducible refine AC ?_);intro K hK) | (refine zM ?_;try clear hK K));(try clear fa))
     (refine oC (CT) ?_)
     (repeat first | refine zG ?_ | ((with_reducible refine AC ?_);intro K hK) | (refine zM ?_;try clear hK K))
     refine EU x.bag.length (fun k=>∀i,(hi:i<T.length)→i<k→decide (s.co<T[i])=false) (fun k=>⟨600,[(2, .ref 0 0 0 0),(3, .ref 1 0 0 0),(9,I (x.bag.take k).sum),(49,AN true T),(50,I x.bag.length),(51,I k)],[(0, .arr 0 9 [AO s]),(1, .arr 0 2 [Cb false x])]⟩) [(0,0),(1,1)] [(0,0),(1,1)] 1 [2,3,9,49,50,51] 600 (BD (by decide) (by decide)) (BD (by decide) (by decide)) (fun i _ h=>absurd h (Nat.not_lt_zero i)) (by (have fa:=(And.intro hT2 hT3);exact zV)) ?_;intro j hj hR2 J2 hJ2;(repeat first | refine zG ?_ | ((with_reducible refine AC ?_);intro K hK) | (refine zM ?_;try clear hK K))
     refine Ac rfl ⟨fun h=> ?_,fun h=> ?_⟩
     ·have hlj:j<x.bag.length:=by simpa using h
      have hlj' :j<T.length:=by omega
      clear h;by_cases c5:s.co<T[j]
      ·have e5:decide (T[j]>s.co)=true:=by simp;omega
       have ha:T.any (fun z=>decide (s.co<z))=true:=EX hlj' (by simpa using c5);(have fa:=(And.intro hlj (And.intro hlj' e5));(repeat first | refine zG ?_ | ((with_reducible refine AC ?_);intro K hK) | (refine zM ?_;try clear hK K));(try clear fa))
       refine DL ?_ ?_<;>(first | exact AK | refine zE ?_);rw [hH,if_pos ha]
      ·have e5:decide (T[j]>s.co)=false:=by simp;omega
       have hs:=D9 x.bag hlj;have hw:IntKind.i64.wrap ((x.bag.take j).sum+x.bag[j])=(x.bag.take (j+1)).sum:=by rw [←hs];have:=hsb (j+1);exact Al (by omega) (by omega)
       (have fa:=(And.intro hlj (And.intro hlj' (And.intro e5 (And.intro hw (BK (show j<9223372036854775807 by omega))))));(repeat first | refine zG ?_ | ((with_reducible refine AC ?_);intro K hK) | (refine zM ?_;try clear hK K));(try clear fa))
       refine hJ2 _ hlj (fun i hi h3=> ?_) (by exact zV);by_cases hij:i=j
       ·subst hij;simp;omega
       ·exact hR2 i hi (by omega)
     ·have hj' :j=x.bag.length:=by have:¬j<x.bag.length:=by simpa using h
                                   omega
      subst hj';clear h;have ha:T.any (fun z=>decide (s.co<z))=false:=D0 fun i hi=>hR2 i hi (by omega)
      rw [if_neg (by simp [ha])] at hH;have w1:IntKind.i64.wrap (s.me-(x.me.length:Int))=s.me-x.me.length:=Al (by omega) (by omega);have w2:IntKind.i64.wrap (3*(s.me-(x.me.length:Int)))=3*(s.me-x.me.length):=Al (by omega) (by omega);have w3:IntKind.i64.wrap (3*(s.me-(x.me.length:Int))+1)=3*(s.me-x.me.length)+1:=Al (by omega) (by omega);have w4:IntKind.i64.wrap (3*(s.me-(x.me.length:Int))+1+1)=3*(s.me-x.me.length)+2:=by rw [Al (by omega) (by omega)];omega
      have ht:x.bag.take x.bag.length=x.bag:=List.take_length;by_cases c6:x.bag.sum<3*(s.me-x.me.length)+1
      ·have e6:decide (x.bag.sum<3*(s.me-(x.me.length:Int))+1)=true:=by simp;omega
       (have fa:=(And.intro w1 (And.intro w2 (And.intro w3 e6)));(repeat first | refine zG ?_ | ((with_reducible refine AC ?_);intro K hK) | (refine zM ?_;try clear hK K));(try clear fa))
       refine DL ?_ ?_<;>(first | exact AK | refine zE ?_);rw [hH,if_pos c6]
      ·have e6:decide (x.bag.sum<3*(s.me-(x.me.length:Int))+1)=false:=by simp;omega
       by_cases c7:3*(s.me-x.me.length)+2<x.bag.sum
       ·have e7:decide (x.bag.sum>3*(s.me-(x.me.length:Int))+2)=true:=by simp;omega
        (have fa:=(And.intro w1 (And.intro w2 (And.intro w3 (And.intro w4 (And.intro e6 e7)))));(repeat first | refine zG ?_ | ((with_reducible refine AC ?_);intro K hK) | (refine zM ?_;try clear hK K));(try clear fa))
        refine DL ?_ ?_<;>(first | exact AK | refine zE ?_);rw [hH,if_neg c6,if_pos c7]
       ·have e7:decide (x.bag.sum>3*(s.me-(x.me.length:Int))+2)=false:=by simp;omega
        (have fa:=(And.intro w1 (And.intro w2 (And.intro w3 (And.intro w4 (And.intro e6 e7)))));(repeat first | refine zG ?_ | ((with_reducible refine AC ?_);intro K hK) | (refine zM ?_;try clear hK K));(try clear fa))
        refine DL ?_ ?_<;>(first | exact AK | refine zE ?_);rw [hH,if_neg c6,if_neg c7]
    ·have e3:(By s x.me != 0)=true:=by simp [c3]
     (have fa:=e3;(repeat first | refine zG ?_ | ((with_reducible refine AC ?_);intro K hK) | (refine zM ?_;try clear hK K));(try clear fa))
     refine DL ?_ ?_<;>(first | exact AK | refine zE ?_);simp [Ag,c1,c2,c3]
  ·have el:((x.bag.length:Int) != AY s)=true:=by simp [cl]
   have hc:Be s x.bag=3:=by unfold Be;rw [if_pos cl]
   refine zc Tryz.ntmps41 ?_;let tb:=Sr;(repeat first | refine zG ?_ | ((with_reducible refine AC ?_);intro K hK) | (refine zM ?_;try clear hK K))
   (refine zW (Bv s) ?_)
   (have fa:=e1;(repeat first | refine zG ?_ | ((with_reducible refine AC ?_);intro K hK) | (refine zM ?_;try clear hK K));(try clear fa))
   (refine zD (ED s) ?_)
   (have fa:=el;(repeat first | refine zG ?_ | ((with_reducible refine AC ?_);intro K hK) | (refine zM ?_;try clear hK K));(try clear fa))
   refine DL ?_ ?_<;>(first | exact AK | refine zE ?_);simp [Ag,c1,hc]
 ·have e1:(AP s != 0)=true:=by simp [c1]
  refine zc Tryz.ntmps41 ?_;let tb:=Sr;(repeat first | refine zG ?_ | ((with_reducible refine AC ?_);intro K hK) | (refine zM ?_;try clear hK K))
  (refine zW (Bv s) ?_)
  (have fa:=e1;(repeat first | refine zG ?_ | ((with_reducible refine AC ?_);intro K hK) | (refine zM ?_;try clear hK K));(try clear fa))
  refine DL ?_ ?_<;>(first | exact AK | refine zE ?_);simp [Ag,c1]
structure G5 (s:AL) (x:Hd):Prop where
 va:AP s=0
 cn:Be s x.bag=0
 ml:By s x.me=0
 ln:(x.bag.length:Int)=AY s
 rg:∀z∈x.bag,0≤z∧z≤s.co
 mm:(x.me.length:Int)≤s.me
 tot:∀z∈Bi x.bag x.me,z≤s.co
 lo:3*(s.me-x.me.length)+1≤x.bag.sum
 hi:x.bag.sum≤3*(s.me-x.me.length)+2
theorem DP {s:AL} {x:Hd} (h:Ag s x=0):G5 s x:=by
 unfold Ag at h;by_cases c1:AP s=0
 ·rw [if_neg (by omega)] at h;by_cases c2:Be s x.bag=0
  ·rw [if_neg (by omega)] at h;by_cases c3:By s x.me=0
   ·rw [if_neg (by omega)] at h;split at h
    ·cases h
    ·rename_i h4;split at h
     ·cases h
     ·split at h
      ·cases h
      ·obtain ⟨k1,k2⟩:=Ha c2;refine ⟨c1,c2,c3,k1,k2,by have:=c3;unfold By at this;split at this;cases this;omega,fun z hz=> ?_,by omega,by omega⟩;have:=fun hf=>h4 (List.any_eq_true.2 ⟨z,hz,hf⟩)
       simp at this;omega
   ·rw [if_pos c3] at h;exact absurd h c3
  ·rw [if_pos c2] at h;exact absurd h c2
 ·rw [if_pos c1] at h;exact absurd h c1
theorem G5.bag {s:AL} {x:Hd} (h:G5 s x):JF s x.bag x.me:=MJ h.va h.cn h.ml
def Am (s:AL) (x:Hd):Bool:=decide (Ag s x=0)&&decide (x.bag.sum=3*(s.me-x.me.length)+2)
theorem G5.nums {s:AL} {x:Hd} (h:G5 s x):JM x.bag=x.bag.sum∧IntKind.i64.wrap (s.me-(x.me.length:Int))=s.me-x.me.length∧IntKind.i64.wrap (3*(s.me-(x.me.length:Int)))=3*(s.me-x.me.length)∧IntKind.i64.wrap (3*(s.me-(x.me.length:Int))+2)=3*(s.me-x.me.length)+2:=by
 have V:=AU h.va;have:=V.co;have:=V.me;have:=DI h.va;have:=h.ln;have:=h.mm;refine ⟨G6 (m:=4) (fun z hz=>by have:=h.rg z hz;omega) (by omega) (by omega),Al (by omega) (by omega),Al (by omega) (by omega),Al (by omega) (by omega)⟩
theorem Kc (s:AL) (x:Hd) (h1:x.me.length≤1000000) (h2:x.bag.length≤1000000):AM Tryz.prog 40 [AO s,Cb false x] (B (Am s x)):=by
 by_cases c:Ag s x=0
 ·have e1:(Ag s x==0)=true:=by simp [c]
  obtain ⟨w1,w2,w3,w4⟩:=(DP c).nums;refine zc Tryz.ntmps40 ?_;let tb:=Yg;(repeat first | refine zG ?_ | ((with_reducible refine AC ?_);intro K hK) | (refine zM ?_;try clear hK K))
  (refine zD (Dk s x h1 h2) ?_)
  (have fa:=e1;(repeat first | refine zG ?_ | ((with_reducible refine AC ?_);intro K hK) | (refine zM ?_;try clear hK K));(try clear fa))
  (refine zD (Oz x.bag h2) ?_)
  (have fa:=(And.intro e1 (And.intro w1 (And.intro w2 (And.intro w3 w4))));(repeat first | refine zG ?_ | ((with_reducible refine AC ?_);intro K hK) | (refine zM ?_;try clear hK K));(try clear fa))
  refine DL ?_ ?_<;>(first | exact AK | refine zE ?_);unfold Am;rw [c];simp;rw [Bool.eq_iff_iff];simp
 ·have e1:(Ag s x==0)=false:=by simp [c]
  refine zc Tryz.ntmps40 ?_;let tb:=Yg;(repeat first | refine zG ?_ | ((with_reducible refine AC ?_);intro K hK) | (refine zM ?_;try clear hK K))
  (refine zD (Dk s x h1 h2) ?_)
  (have fa:=e1;(repeat first | refine zG ?_ | ((with_reducible refine AC ?_);intro K hK) | (refine zM ?_;try clear hK K));(try clear fa))
  refine DL ?_ ?_<;>(first | exact AK | refine zE ?_);simp [Am,c]
theorem Fo (s:AL) (x:Hd) (h1:x.me.length≤1000000) (h2:x.bag.length≤1000000):AM Tryz.prog 54 [AO s,Cb false x] (B (Am s x)):=by
 by_cases c:Ag s x=0
 ·have e1:(Ag s x==0)=true:=by simp [c]
  obtain ⟨w1,w2,w3,w4⟩:=(DP c).nums;refine zc Tryz.ntmps54 ?_;let tb:=Yc;(repeat first | refine zG ?_ | ((with_reducible refine AC ?_);intro K hK) | (refine zM ?_;try clear hK K))
  (refine zD (FQ s x h1) ?_)
  (have fa:=e1;(repeat first | refine zG ?_ | ((with_reducible refine AC ?_);intro K hK) | (refine zM ?_;try clear hK K));(try clear fa))
  (refine zD (IZ x.bag h2) ?_)
  (have fa:=(And.intro e1 (And.intro w1 (And.intro w2 (And.intro w3 w4))));(repeat first | refine zG ?_ | ((with_reducible refine AC ?_);intro K hK) | (refine zM ?_;try clear hK K));(try clear fa))
  refine DL ?_ ?_<;>(first | exact AK | refine zE ?_);unfold Am;rw [c];simp;rw [Bool.eq_iff_iff];simp
 ·have e1:(Ag s x==0)=false:=by simp [c]
  refine zc Tryz.ntmps54 ?_;let tb:=Yc;(repeat first | refine zG ?_ | ((with_reducible refine AC ?_);intro K hK) | (refine zM ?_;try clear hK K))
  (refine zD (FQ s x h1) ?_)
  (have fa:=e1;(repeat first | refine zG ?_ | ((with_reducible refine AC ?_);intro K hK) | (refine zM ?_;try clear hK K));(try clear fa))
  refine DL ?_ ?_<;>(first | exact AK | refine zE ?_);simp [Am,c]
def M9 (s:AL) (x:Hd):List Int:=if Ag s x=0 then Bi x.bag x.me else []
theorem fZ (s:AL) (x:Hd) (h1:x.me.length≤1000000) (h2:x.bag.length≤1000000):AM Tryz.prog 55 [AO s,Cb false x] (AN true (M9 s x)):=by
 by_cases c:Ag s x=0
 ·have e1:(Ag s x != 0)=false:=by simp [c]
  have ht:M9 s x=Bi x.bag x.me:=by simp [M9,c]
  have hTl:=DV x.me x.bag;have CT:=Oc s x (DP c).bag;rw [ht];obtain ⟨T,hT⟩:∃T,T=Bi x.bag x.me:=⟨_,rfl⟩;rw [←hT] at CT hTl ⊢;have hT2:T.take x.bag.length=T:=by rw [←hTl,List.take_length]
  have hT3:x.bag.length≤T.length:=by omega
  refine zc Tryz.ntmps55 ?_;let tb:=YL;(repeat first | refine zG ?_ | ((with_reducible refine AC ?_);intro K hK) | (refine zM ?_;try clear hK K))
  (refine zW (Dk s x h1 h2) ?_)
  (have fa:=e1;(repeat first | refine zG ?_ | ((with_reducible refine AC ?_);intro K hK) | (refine zM ?_;try clear hK K));(try clear fa))
  (refine oC (CT) ?_)
  (repeat first | refine zG ?_ | ((with_reducible refine AC ?_);intro K hK) | (refine zM ?_;try clear hK K))
  refine DL ?_ ?_<;>(have fa:=(And.intro hT2 hT3);first | exact AK | (refine zE ?_;try clear fa))
 ·have e1:(Ag s x != 0)=true:=by simp [c]
  have ht:M9 s x=[]:=by simp [M9,c]
  rw [ht];refine D2 (x:= .v (.slice none 0 0)) (fun _ _ _=>FX) ?_;refine zc Tryz.ntmps55 ?_;let tb:=YL;(repeat first | refine zG ?_ | ((with_reducible refine AC ?_);intro K hK) | (refine zM ?_;try clear hK K))
  (refine zW (Dk s x h1 h2) ?_)
  (have fa:=e1;(repeat first | refine zG ?_ | ((with_reducible refine AC ?_);intro K hK) | (refine zM ?_;try clear hK K));(try clear fa))
  refine DL ?_ ?_<;>(first | exact AK | refine zE ?_)
def BS (K co:Int) (sev:Bool):Option Int→Int→List Int→Int
 | _,_,[]=>0
 | none,_,k::l=>if k<0∨K≤k then 2 else BS K co sev (some k) 1 l
 | some q,m,k::l=>if k<0∨K≤k then 2 else if k<q∨(k=q∧sev=false) then 11 else if k=q then (if co<m+1 then 8 else BS K co sev (some k) (m+1) l) else BS K co sev (some k) 1 l
def I4 (ks:List Int) (k:Nat):Option Int:=if k=0 then none else ks[k-1]?
theorem Mw (ks:List Int) {k:Nat} (h:k<ks.length):I4 ks (k+1)=some ks[k]:=by simp [I4,h]
theorem Bd (s:AL):AY s=0∨(1≤s.co∧s.co≤4∧AY s≤60):=by
 by_cases h:AP s=0
 ·exact .inr ⟨(AU h).co.1,(AU h).co.2,by have:=DI h;omega⟩
 ·exact .inl (Id h)
theorem RG (K co:Int) (sev:Bool) {ks:List Int} {k:Nat} (m:Int) (h:k<ks.length):BS K co sev (I4 ks k) m (ks.drop k) =
  if ks[k]<0∨K≤ks[k] then 2 else if 0<k∧(ks[k]<ks[k-1]∨(ks[k]=ks[k-1]∧sev=false)) then 11
  else if 0<k∧ks[k]=ks[k-1] then (if co<m+1 then 8 else BS K co sev (I4 ks (k+1)) (m+1) (ks.drop (k+1))) else BS K co sev (I4 ks (k+1)) 1 (ks.drop (k+1)):=by
 rw [List.drop_eq_getElem_cons h,Mw ks h];cases k with
 | zero=>simp [I4,BS]
 | succ j =>
  rw [Mw ks (by omega)];simp [BS]
set_option maxHeartbeats 4000000 in
theorem Lp (s:AL) (ks:List Int) (sev:Bool) (hl:ks.length≤1000000):AM Tryz.prog 78 [AO s,AN false ks,B sev] (I (BS (AY s) s.co sev none 0 ks)):=by
 have hco:=Bd s;refine zb Tryz.ntmps78 ?_;let tb:=gR;let lv:=Zt;(repeat' first | refine zQ ?_ | (refine zN ?_;intro K hC hK) | (refine zM ?_;try clear hK hC K) | (refine zC ?_ ?_<;>intro hb) | (refine zK ?_;intro Jo JU JC AH AJ AG))
 refine Ab ks.length (fun k σ=>∃m:Nat,m≤k∧BS (AY s) s.co sev none 0 ks=BS (AY s) s.co sev (I4 ks k) m (ks.drop k)∧σ=⟨900,[(1,AN false ks),(2,B sev),(3, .ref 0 0 0 0),(7,I m),(11,AN false ks),(12,I ks.length),(13,I k)],[(0, .arr 0 9 [AO s])]⟩) [(0,0)] [(0,0)] 0 [1,2,3,7,11,12,13] 900 zf zf ⟨0,Nat.le_refl _,rfl,by exact zV⟩ ?_;rintro k σ' hk ⟨m,hm,hR,rfl⟩ J hcJ hJ;have hS:= @RG (AY s) s.co sev ks k m;(repeat' first | refine zS (ED s) ?_ | refine zQ ?_ | (refine zN ?_;intro K hC hK) | (refine zM ?_;try clear hK hC K) | (refine zC ?_ ?_<;>intro hb) | (refine zK ?_;intro Jo JU JC AH AJ AG))
 all_goals first
  | (refine hJ _ (by omega) ⟨m+1,by omega,?_,by exact zV⟩;rw [hR,hS (by omega)];((repeat' split)<;>first | rfl | (exfalso;omega) | (simp_all;done) | (simp_all;omega)))
  | (refine hJ _ (by omega) ⟨1,by omega,?_,by exact zV⟩;rw [hR,hS (by omega)];((repeat' split)<;>first | rfl | (exfalso;omega) | (simp_all;done) | (simp_all;omega)))
  | (refine Aa [] ?_ ?_<;>(first | exact AK | refine zE ?_);rw [hR,hS (by omega)];((repeat' split)<;>first | rfl | (exfalso;omega) | (simp_all;done) | (simp_all;omega)))
  | (refine Aa [] ?_ ?_<;>(first | exact AK | refine zE ?_);obtain rfl:k=ks.length:=by omega
     rw [hR,List.drop_length];unfold BS;cases I4 ks ks.length<;>rfl)
def Cs (s:AL) (f:Fm):Prop:=(0<f.ks.length∧f.wh≠3∧f.wh≠6)∨(f.ag=true∧f.wh≠2)∨(f.wh=2∧(3*s.me+2) % 2=1)∨(f.wh=3∧(f.ks.length:Int)≠3*s.me+1)∨
 (f.wh=5∧(s.su≠[9,9,9]∨s.me<3))∨(f.wh=6∧(f.ks.length:Int)≠3*s.me+2)
instance (s:AL) (f:Fm):Decidable (Cs s f):=by unfold Cs;infer_instance
def Az (s:AL) (f:Fm):Int:=if AP s≠0 then AP s else if f.wh<1∨6<f.wh then 4 else if Cs s f then 3 else BS (AY s) s.co (f.wh==6) none 0 f.ks
theorem Tz (K co:Int) (sev:Bool) {ks:List Int} (h:¬0<ks.length):BS K co sev none 0 ks=0:=by
 have:ks=[]:=List.eq_nil_of_length_eq_zero (by omega);subst this;rfl
theorem cB (K co:Int) {s:AL} {f:Fm} (h:¬Cs s f):BS K co (f.wh != 3) none 0 f.ks=BS K co (f.wh==6) none 0 f.ks:=by
 by_cases hl:0<f.ks.length
 ·unfold Cs at h;have:f.wh=3∨f.wh=6:=by omega
  rcases this with h | h<;>rw [h]<;>rfl
 ·rw [Tz _ _ _ hl,Tz _ _ _ hl]
theorem Rj (s:AL) (hs:s.su.length≤1000000):AM Tryz.prog 80 [AO s] (B (decide (s.su=[9,9,9]))):=by
 have key:∀l:List Int,(h:l.length=3)→(l=[9,9,9]↔(l[0]=9∧l[1]=9∧l[2]=9)):=fun l h=>by
  match l,h with
  | [a,b,c],_=>simp
 refine zb Tryz.ntmps80 ?_;let tb:=d8;let lv:=Y8;(repeat' first | refine zQ ?_ | (refine zN ?_;intro K hC hK) | (refine zM ?_;try clear hK hC K) | (refine zC ?_ ?_<;>intro hb) | (refine zK ?_;intro Jo JU JC AH AJ AG))
 all_goals (refine Aa [] ?_ ?_<;>(first | exact AK | refine zE ?_);try (congr 3;symm))
 all_goals first
  | (rw [decide_eq_false_iff_not];intro h;have:=congrArg List.length h;simp at this;omega)
  | (rw [decide_eq_false_iff_not,key _ (by omega)];omega)
  | (rw [decide_eq_true_eq,key _ (by omega)];omega)
  | (rw [Bool.eq_iff_iff,decide_eq_true_eq,key _ (by omega),beq_iff_eq];omega)
set_option maxHeartbeats 4000000 in
theorem Kv (s:AL) (f:Fm) (hl:f.ks.length≤1000000):AM Tryz.prog 81 [AO s,DN false f] (I (BS (AY s) s.co (f.wh != 3) none 0 f.ks)):=by
 have hco:=Bd s;refine zb Tryz.ntmps81 ?_;let tb:=d9;let lv:=ZL;(repeat' first | refine zQ ?_ | (refine zN ?_;intro K hC hK) | (refine zM ?_;try clear hK hC K) | (refine zC ?_ ?_<;>intro hb) | (refine zK ?_;intro Jo JU JC AH AJ AG))
 refine Ab f.ks.length (fun k σ=>∃m:Nat,m≤k∧BS (AY s) s.co (f.wh != 3) none 0 f.ks=BS (AY s) s.co (f.wh != 3) (I4 f.ks k) m (f.ks.drop k)∧σ=⟨900,[(2, .ref 0 0 0 0),(3, .ref 1 0 0 0),(5,I m),(6,I k)],[(0, .arr 0 9 [AO s]),(1, .arr 0 3 [DN false f])]⟩) [(0,0),(16,1)] [(0,0),(1,1)] 0 [2,3,5,6] 900 zf zf ⟨0,Nat.le_refl _,rfl,by exact zV⟩ ?_;rintro k σ' hk ⟨m,hm,hR,rfl⟩ J hcJ hJ;have hS:= @RG (AY s) s.co (f.wh != 3) f.ks k m;(repeat' first | refine zS (IK s _) ?_ | refine zQ ?_ | (refine zN ?_;intro K hC hK) | (refine zM ?_;try clear hK hC K) | (refine zC ?_ ?_<;>intro hb) | (refine zK ?_;intro Jo JU JC AH AJ AG))
 all_goals first
  | (refine hJ _ (by omega) ⟨m+1,by omega,?_,by exact zV⟩;rw [hR,hS (by omega)];((repeat' split)<;>first | rfl | (exfalso;omega) | (simp_all;done) | (simp_all;omega)))
  | (refine hJ _ (by omega) ⟨1,by omega,?_,by exact zV⟩;rw [hR,hS (by omega)];((repeat' split)<;>first | rfl | (exfalso;omega) | (simp_all;done) | (simp_all;omega)))
  | (refine Aa [] ?_ ?_<;>(first | exact AK | refine zE ?_);rw [hR,hS (by omega)];((repeat' split)<;>first | rfl | (exfalso;omega) | (simp_all;done) | (simp_all;omega)))
  | (refine Aa [] ?_ ?_<;>(first | exact AK | refine zE ?_);obtain rfl:k=f.ks.length:=by omega
     rw [hR,List.drop_length];unfold BS;cases I4 f.ks f.ks.length<;>rfl)
end Go.Proofs.YthblfhgofopcaaaGreat
