/-
  Parts of the proof: Knit.
-/
import Derived.Test.YthblfhgofopcaaaGreatSH13
import Derived.Test.YthblfhgofopcaaaGreatSH14
import Derived.Test.YthblfhgofopcaaaGreatFO13
set_option linter.all false
namespace Go.Proofs.YthblfhgofopcaaaGreat
open Go.RowKit
set_option maxRecDepth 100000
set_option maxHeartbeats 2000000
theorem W8 {s:AL} (hv:AP s=0):∀i,i≤s.su.length→0≤(s.su.take i).sum∧(s.su.take i).sum≤9*(i:Int)
 | 0,_=>by simp
 | i+1,h=>by
  have h1:=W8 hv i (by omega);have h2:=(AU hv).su _ (List.getElem_mem (show i<s.su.length by omega));rw [List.take_succ_eq_append_getElem (by omega),List.sum_append];simp;omega
set_option maxHeartbeats 4000000 in
theorem fR (x:Int) (s:AL) (hv:AP s=0):Hn Tryz.prog 168 [.ref 0 0 0 0,AO s] (Af x) (fun a:List Int×Int=>AN false a.1) (fun a=>Af a.2) (fun a=>(∀z∈a.1,0≤z∧z<AQ s)∧a.1.length≤1000):=by
 obtain ⟨p1,p2,p3,p4⟩:=A7 hv;have V:=AU hv;have hme:=V.me;have hsl:=V.su3;have hwi:=V.wi;have hdr:=V.dr;have CP:=Cm s (by have:=V.su3;omega);rw [p1] at CP;have hpl:AQ s=s.su.sum+s.wi+s.dr:=by unfold AQ;rw [Gh];omega
 have hss:=W8 hv;have hsu:=V.su;clear V;obtain ⟨P,hP⟩:∃P,AQ s=P:=⟨_,rfl⟩;rw [hP] at CP p3 p4 hpl ⊢;unfold Hn Af;refine DX ?_;have b1:=Av (x:=x) (n:=3) (by omega) (by omega);refine FL 1 Tryz.ntmps168 ?_;let tb:=aL;let lv:=WT;(have fa:= @Af.eq_1;(repeat' first|refine zJ (tg [0]) (BI _ 3 (by omega)) ?_|refine zQ ?_|refine zN ?_;intro K hC hK|refine zM ?_;try clear hK hC K|refine zC ?_ ?_<;>intro hb|refine zK ?_;intro Jo JU JC AH AJ AG)<;>(try clear fa))
 obtain ⟨x1,hx1⟩:∃x1,AR x=x1:=⟨_,rfl⟩;obtain ⟨sh,hsh⟩:∃sh,BC x 3=sh:=⟨_,rfl⟩;rw [hsh] at b1;rw [hx1,hsh];refine A8 (BY 6 500 0 1 (by rfl) (by rfl)) (α:=Nat×Nat×List Int×Nat) (fun a=>[(0, .ref 0 0 0 0),(3, .ref 1 0 0 0),(5,I sh),(6, .rsl 2 a.2.2.2 0 a.2.2.1.length),(7,I a.2.1),(8,I a.1)]) (fun a=>[(0, .arr 0 1 [U x1]),(1, .arr 0 9 [AO s]),(2, .arr a.2.2.2 1 (a.2.2.1.map I))])
  (fun a=>s.su.length-a.1) (fun a=>a.1≤s.su.length∧(a.2.1:Int)=(s.su.take a.1).sum∧(∀z∈a.2.2.1,0≤z∧z<(a.2.1:Int))∧a.2.2.1.length≤a.2.1) [(0,0),(64,1),(500,2)] [(0,0),(1,1),(2,2)] 0 [0,3,5,6,7,8] 900 zg zg (0,0,[],0) ⟨by dsimp only;omega,by simp,fun z hz=>(by cases hz),Nat.le_refl _⟩ (by (have fa:=(And.intro @Dg.eq_1 (And.intro @Ci.eq_1 @Ci.eq_2));exact CZ)) ?_
 rintro ⟨i,k,l,g⟩ ⟨k1,k2,k3,k4⟩ J hcJ hJ;dsimp only at k1 k2 k3 k4 hJ ⊢;have hsi:=hss i k1;by_cases hi:i<s.su.length
 ·obtain ⟨n,hn⟩:∃n,s.su[i]=n:=⟨_,rfl⟩;have hnn:=hsu _ (List.getElem_mem hi);have hts:(s.su.take (i+1)).sum=(s.su.take i).sum+n:=by rw [List.take_succ_eq_append_getElem hi,List.sum_append,hn];simp
  rw [hn] at hnn;(repeat' first|refine zQ ?_|refine zN ?_;intro K hC hK|refine zM ?_;try clear hK hC K|refine zC ?_ ?_<;>intro hb|refine zK ?_;intro Jo JU JC AH AJ AG)
  refine At (α:=Nat×Nat×List Int×Nat) (fun a=>[(0, .ref 0 0 0 0),(3, .ref 1 0 0 0),(5,I sh),(6, .rsl 2 a.2.2.2 0 a.2.2.1.length),(7,I a.2.1),(8,I i),(9,I a.1)]) (fun a=>[(0, .arr 0 1 [U x1]),(1, .arr 0 9 [AO s]),(2, .arr a.2.2.2 1 (a.2.2.1.map I))])
   (fun a=>(n-a.1).toNat) (fun a=>(a.1:Int)≤n∧(a.2.1:Int)=k+a.1∧(∀z∈a.2.2.1,0≤z∧z<(a.2.1:Int))∧a.2.2.1.length≤a.2.1) [(0,0),(1,1),(2,2)] [(0,0),(1,1),(2,2)] 0 [0,3,5,6,7,8,9] 1900 zg zg (0,k,l,g) ⟨by dsimp only;omega,by simp,k3,k4⟩ (by exact CZ) ?_
  rintro ⟨r,q,m,g'⟩ ⟨j1,j2,j3,j4⟩ J2 hcJ2 hJ2;dsimp only at j1 j2 j3 j4 hJ2 ⊢;by_cases hr:(r:Int)<n
  ·(have fa:=hn;(repeat' first|refine zQ ?_|refine zN ?_;intro K hC hK|refine zM ?_;try clear hK hC K|refine zC ?_ ?_<;>intro hb|refine zK ?_;intro Jo JU JC AH AJ AG)<;>(try clear fa))
   ·refine hJ2 _ (r+1,q+1,m++[(q:Int)],g' +1) (by dsimp only;omega) ⟨by dsimp only;omega,by dsimp only;omega,fun z hz=> ?_,by simp;omega⟩ (by (have fa:= @List.length_append.{0};exact CZ));rcases List.mem_append.1 hz with hz|hz
    ·have:=j3 z hz;dsimp only;omega
    ·simp at hz;dsimp only;omega
   ·refine hJ2 _ (r+1,q+1,m,g') (by dsimp only;omega) ⟨by dsimp only;omega,by dsimp only;omega,fun z hz=> ?_,by dsimp only;omega⟩ (by exact CZ);have:=j3 z hz;dsimp only;omega
  ·(have fa:=hn;(repeat' first|refine zQ ?_|refine zN ?_;intro K hC hK|refine zM ?_;try clear hK hC K|refine zC ?_ ?_<;>intro hb|refine zK ?_;intro Jo JU JC AH AJ AG)<;>(try clear fa))
   refine hJ _ (i+1,q,m,g') (by dsimp only;omega) ⟨by dsimp only;omega,by dsimp only;omega,j3,j4⟩ (by exact CZ)
 ·have hT:s.su.take i=s.su:=List.take_of_length_le (by omega);rw [hT] at k2;(repeat' first|refine zQ ?_|refine zN ?_;intro K hC hK|refine zM ?_;try clear hK hC K|refine zC ?_ ?_<;>intro hb|refine zK ?_;intro Jo JU JC AH AJ AG)
  refine At (α:=Nat×List Int×Nat) (fun a=>[(0, .ref 0 0 0 0),(3, .ref 1 0 0 0),(6, .rsl 2 a.2.2 0 a.2.1.length),(7,I a.1)]) (fun a=>[(0, .arr 0 1 [U x1]),(1, .arr 0 9 [AO s]),(2, .arr a.2.2 1 (a.2.1.map I))])
   (fun a=>(P-a.1).toNat) (fun a=>(a.1:Int)≤P∧(∀z∈a.2.1,0≤z∧z<(a.1:Int))∧a.2.1.length≤a.1) [(0,0),(1,1),(2,2)] [(0,0),(1,1),(2,2)] 0 [0,3,6,7] 1900 zg zg (k,l,g) ⟨by dsimp only;omega,k3,k4⟩ (by exact CZ) ?_
  rintro ⟨q,m,g'⟩ ⟨j1,j3,j4⟩ J2 hcJ2 hJ2;dsimp only at j1 j3 j4 hJ2 ⊢;by_cases hq:(q:Int)<P
  ·(repeat' first|refine zS CP ?_|refine zQ ?_|refine zN ?_;intro K hC hK|refine zM ?_;try clear hK hC K|refine zC ?_ ?_<;>intro hb|refine zK ?_;intro Jo JU JC AH AJ AG)
   refine hJ2 _ (q+1,m++[(q:Int)],g' +1) (by dsimp only;omega) ⟨by dsimp only;omega,fun z hz=> ?_,by simp;omega⟩ (by (have fa:= @List.length_append.{0};exact CZ));rcases List.mem_append.1 hz with hz|hz
   ·have:=j3 z hz;dsimp only;omega
   ·simp at hz;dsimp only;omega
  ·(repeat' first|refine zS CP ?_|refine zQ ?_|refine zN ?_;intro K hC hK|refine zM ?_;try clear hK hC K|refine zC ?_ ?_<;>intro hb|refine zK ?_;intro Jo JU JC AH AJ AG)
   have hb0:∀z∈m,0≤z∧z<P:=fun z hz=>by have:=j3 z hz;omega
   have hm0:m.length≤34:=by omega
   clear j3 j4;refine At (α:=List Int×Nat×Int) (fun a=>[(0, .ref 0 0 0 0),(6, .rsl 1 a.2.1 0 a.1.length),(10,I (3*s.me+2))]) (fun a=>[(0, .arr 0 1 [U a.2.2]),(1, .arr a.2.1 1 (a.1.map I))])
    (fun a=>a.1.length) (fun a=>(∀z∈a.1,0≤z∧z<P)∧a.1.length≤34) [(0,0),(2,1)] [(0,0),(3044,1)] 0 [0,6,10] 2900 zg zg (m,g',x1) ⟨hb0,hm0⟩ (by exact CZ) ?_
   rintro ⟨m,g',x'⟩ ⟨j1,j2⟩ J3 hcJ3 hJ3;dsimp only at j1 j2 hJ3 ⊢;by_cases hl:3*s.me+2<(m.length:Int)
   ·have b2:=Av (x:=x') (n:=m.length) (by omega) (by omega);have CB:=BI x' m.length (by omega);obtain ⟨a,ha⟩:∃a:Nat,BC x' m.length=(a:Int):=⟨(BC x' m.length).toNat,by omega⟩;have e14:min a m.length=a:=by omega
    have e15:min (a+1) m.length=a+1:=by omega
    have e16:List.take a (List.take a m)=m.take a:=by rw [List.take_take,Nat.min_self]
    have e18:List.take (m.length-(a+1)) (List.drop (a+1) m)=m.drop (a+1):=List.take_of_length_le (by simp);have e20:(((a:Nat):Int)-0).toNat=a:=by omega
    have hlen:(m.take a++m.drop (a+1)).length=a+(m.length-(a+1)):=by simp;omega
    have e21:((m.length:Int)-((a:Int)+1)).toNat=m.length-(a+1):=by omega
    (have fa:=(And.intro @Af.eq_1 (And.intro ha (And.intro e21 (And.intro e14 (And.intro e15 (And.intro e16 (And.intro e18 (And.intro e20 Nat.min_self))))))));(repeat' first|refine zJ (tg [0]) CB ?_|refine zQ ?_|refine zN ?_;intro K hC hK|refine zM ?_;try clear hK hC K|refine zC ?_ ?_<;>intro hb|refine zK ?_;intro Jo JU JC AH AJ AG)<;>(try clear fa))
    refine hJ3 _ (m.take a++m.drop (a+1),2,AR x') (by dsimp only;rw [hlen];omega) ⟨fun z hz=> ?_,by dsimp only;omega⟩ (by (have fa:=hlen;exact CZ));rcases List.mem_append.1 hz with hz|hz
    ·exact j1 z (List.mem_of_mem_take hz)
    ·exact j1 z (List.mem_of_mem_drop hz)
   ·(repeat' first|refine zQ ?_|refine zN ?_;intro K hC hK|refine zM ?_;try clear hK hC K|refine zC ?_ ?_<;>intro hb|refine zK ?_;intro Jo JU JC AH AJ AG)
    have hT2:m.take m.length=m:=List.take_length;refine Aa [(0,0)] ?_ ?_<;>(first|exact AK|refine zE ?_);exact ⟨_,An.sl _ _ _,(m,x'),⟨j1,by dsimp only;omega⟩,rfl,rfl⟩
end Go.Proofs.YthblfhgofopcaaaGreat
