/-
  Parts of the proof: KitW, KitH, FmL, KitS, Lw.
-/
import Derived.Test.YthblfhgofopcaaaGreatSH13
import Derived.Test.YthblfhgofopcaaaGreatSH14
import Derived.Test.YthblfhgofopcaaaGreatFO13
import Derived.Test.YthblfhgofopcaaaGreatFO15
import Derived.Test.YthblfhgofopcaaaGreatFO17
set_option linter.all false
namespace Go.Proofs.YthblfhgofopcaaaGreat
open Go.RowKit
set_option maxRecDepth 100000
set_option maxHeartbeats 2000000
theorem Oh (x:Int) (h:Hd) (hl:h.bag.length≤1000) (hm:h.me.length≤1000) (hz:∀z∈h.bag,0≤z∧z≤1000) (hs:1≤h.bag.sum):Hn Tryz.prog 32 [.ref 0 0 0 0,Cb false h] (Af x) (fun _:Nat×Int=> .agg [.rsl 1 1 0 h.bag.length,AX true h.me]) (fun a=>[(0, .arr 0 1 [U a.2]),(1, .arr 1 1 ((h.bag.set a.1 (h.bag.getD a.1 0-1)).map I))]) (fun a=>a.1<h.bag.length∧1≤h.bag.getD a.1 0):=by
 have CC:=Ej h (by omega) (by omega);have CT:=FE h.bag (by omega);have hw:JM h.bag=h.bag.sum:=G6 (m:=1000) (fun z hz' =>by have:=hz z hz';omega) (by omega) (by omega);rw [hw] at CT;have hsb:h.bag.sum≤1000000:=by
  have:=NC (c:=1000) (fun z hz' =>(hz z hz').2);have:(h.bag.length:Int)*1000≤1000*1000:=by omega
  omega
 have hst:=fun (i:Nat)=>GG h.bag i (fun z hz' =>(hz z hz').1)
 obtain ⟨S,hS⟩:∃S,h.bag.sum=S:=⟨_,rfl⟩;rw [hS] at CT hs hsb hst;have b1:=Av (x:=x) (n:=S) (by omega) (by omega);have CB:=BI x S (by omega);unfold Hn Af;refine DX ?_;refine FL 1 Tryz.ntmps32 ?_;let tb:=eS;let lv:=Zu;(have fa:= @Af.eq_1;(repeat' first|refine zO CC ?_|refine zS CT ?_|refine zJ (tg [0]) CB ?_|refine zQ ?_|refine zN ?_;intro K hC hK|refine zM ?_;try clear hK hC K|refine zC ?_ ?_<;>intro hb|refine zK ?_;intro Jo JU JC AH AJ AG)<;>(try clear fa))
 obtain ⟨x1,hx1⟩:∃x1,AR x=x1:=⟨_,rfl⟩;obtain ⟨a0,ha0⟩:∃a0,BC x S=a0:=⟨_,rfl⟩;rw [ha0] at b1;rw [hx1,ha0];refine At (α:=Nat×Int) (fun a=>[(4, .ref 1 0 0 0),(5, .ref 2 0 0 0),(6,I a.2),(7,I a.1)]) (fun a=>[(0, .arr 0 1 [U x1]),(1, .arr 0 2 [.agg [Bw,Bw]]),(2, .arr 0 2 [.agg [.rsl 3 1 0 h.bag.length, .rsl 4 1 0 h.me.length]]),(3, .arr 1 1 (h.bag.map I)),(4, .arr 1 3 (h.me.map AZ))])
  (fun a=>h.bag.length-a.1) (fun a=>a.1≤h.bag.length∧a.2=a0-(h.bag.take a.1).sum∧0≤a.2) [(0,0),(80,1),(128,2),(112,3),(113,4)] [(0,0),(1,1),(2,2),(3,3),(4,4)] 0 [4,5,6,7] 900 zg zg (0,a0) ⟨by dsimp only;omega,by simp,by dsimp only;omega⟩ (by exact CZ) ?_
 rintro ⟨k,a⟩ ⟨k1,k2,k3⟩ J hcJ hJ;dsimp only at k1 k2 k3 hJ ⊢;by_cases hk:k<h.bag.length
 ·obtain ⟨z,hzz⟩:∃z,h.bag[k]=z:=⟨_,rfl⟩;have hzb:=hz z (by rw [←hzz];exact List.getElem_mem hk);have hg:h.bag.getD k 0=z:=by simp [hk,hzz]
  have hts:=D9 h.bag hk;rw [hzz] at hts;have hs0:0≤(h.bag.take k).sum:=GJ fun y hy=>(hz y (List.mem_of_mem_take hy)).1
  by_cases ha:a<z
  ·have hse:(h.bag.map I).set k (I (z-1))=(h.bag.set k (z-1)).map I:=(List.map_set ..).symm;(have fa:=(And.intro hzz hse);(repeat' first|refine zQ ?_|refine zN ?_;intro K hC hK|refine zM ?_;try clear hK hC K|refine zC ?_ ?_<;>intro hb|refine zK ?_;intro Jo JU JC AH AJ AG)<;>(try clear fa))
   refine Aa [(0,0),(3,1)] ?_ ?_<;>(first|exact AK|refine zE ?_);refine ⟨.agg [.rsl 1 1 0 h.bag.length,AX true h.me],?_,(k,x1),⟨hk,by dsimp only;omega⟩,rfl,?_⟩
   ·refine An.agg ?_;(repeat first|exact EO.nil|refine GQ ?_)
   ·rw [hg]
  ·(have fa:=hzz;(repeat' first|refine zQ ?_|refine zN ?_;intro K hC hK|refine zM ?_;try clear hK hC K|refine zC ?_ ?_<;>intro hb|refine zK ?_;intro Jo JU JC AH AJ AG)<;>(try clear fa))
   refine hJ _ (k+1,a-z) (by dsimp only;omega) ⟨by dsimp only;omega,by dsimp only;omega,by dsimp only;omega⟩ (by exact CZ)
 ·have hT:h.bag.take k=h.bag:=List.take_of_length_le (by omega);rw [hT,hS] at k2;omega
structure HR where
 ms:List Gp
 X:List Int
 g:Nat
 x:Int
structure rW (s:AL) (P:Nat) (a:HR):Prop where
 xl:a.X.length=P
 full:Am s ⟨a.X,a.ms⟩=true
set_option maxHeartbeats 8000000 in
theorem Qa (x:Int) (s:AL) (hM:Jn s) (fs:List Fm) (hf:∀f∈fs,Az s f=0∧f.ks.length≤1000) (h1:1≤fs.length) (h3:fs.length≤3):Hn Tryz.prog 85 [.ref 0 0 0 0,AO s,Bh false fs] (Af x) (fun a:HR=> .agg [.rsl 1 a.g 0 (AQ s).toNat,AX false a.ms]) (fun a=>[(0, .arr 0 1 [U a.x]),(1, .arr a.g 1 (a.X.map I))]) (rW s (AQ s).toNat):=by
 have hv:=hM.ok;obtain ⟨p1,p2,p3,p4⟩:=A7 hv;have V:=AU hv;have hme:=V.me;have hco:=V.co;have CP:=Cm s (by have:=V.su3;omega);rw [p1] at CP;have b0:=Av (x:=x) (n:=fs.length) (by omega) (by omega);have CB:=BI x fs.length (by omega);obtain ⟨k,hk⟩:∃k,BC x fs.length=k:=⟨_,rfl⟩;rw [hk] at b0;have hkl:k.toNat<fs.length:=by omega
 obtain ⟨f,hfk⟩:∃f,fs[k.toNat]=f:=⟨_,rfl⟩;have hff:=hf f (by rw [←hfk];exact List.getElem_mem hkl);have CW:=jV (AR x) s hM f hff.1 hff.2;have CBu:=fun x' =>UF x' s hM
 have CFi:=fun x' h Mo hl hF=>XW x' s hM h Mo hl hF
 obtain ⟨P,hP⟩:∃P:Nat,AQ s=(P:Int):=⟨(AQ s).toNat,by omega⟩;rw [hP] at CP p3 p4 CW CBu CFi ⊢;simp only [Int.toNat_natCast] at CW CBu CFi ⊢;clear V;unfold Hn Af;refine DX ?_;refine FL 1 Tryz.ntmps85 ?_;let tb:=fB;let lv:=ZY;(have fa:=(And.intro @Af.eq_1 (And.intro hk (And.intro hfk @Ay)));(repeat' first|refine zJ (tg [0]) CB ?_|refine zQ ?_|refine zN ?_;intro K hC hK|refine zM ?_;try clear hK hC K|refine zC ?_ ?_<;>intro hb|refine zK ?_;intro Jo JU JC AH AJ AG)<;>(try clear fa))
 (have fa:= @Af.eq_1;refine r9 (tg [0]) (CW) ?_;clear AH AJ AG Jo JU JC;(try clear fa));intro xr hxr;have hXl:=hxr.xl;have hXy:=hxr.yes;obtain ⟨ms,X,ok,y⟩:=xr;dsimp only at hXl hXy ⊢;clear hxr;have hTX:X.take P=X:=List.take_of_length_le (by omega);have hTX2:P≤X.length:=by omega
 by_cases hg:ok=true∧¬BC y 6=0
 ·obtain ⟨rfl,h6⟩:=hg;have hfu:=hXy rfl;have ho:G5 s ⟨X,ms⟩:=DP (by unfold Am at hfu;simp at hfu;exact hfu.1);have hrg:=ho.rg;have hmm:=ho.mm;have hlo:=ho.lo;dsimp only at hrg hmm hlo;have CWo:=Oh (AR (AR y)) ⟨X,ms⟩ (by dsimp only;omega) (by dsimp only;omega) (fun z hz=>by have:=hrg z hz;omega) (by dsimp only;omega);by_cases h3:BC (AR y) 3=0
  ·(have fa:=(And.intro @Af.eq_1 (And.intro hTX (And.intro hTX2 @Ay)));(repeat' first|refine zJ (tg [0]) (Dt y 6 (by omega)) ?_|refine zJ (tg [0]) (Dt (AR y) 3 (by omega)) ?_|refine zQ ?_|refine zN ?_;intro K hC hK|refine zM ?_;try clear hK hC K|refine zC ?_ ?_<;>intro hb|refine zK ?_;intro Jo JU JC AH AJ AG)<;>(try clear fa))
   (have fa:=(And.intro @Af.eq_1 (And.intro hTX hTX2));refine jY (tg [0]) (CWo) ?_;clear AH AJ AG Jo JU JC;(try clear fa));intro xr hxr;obtain ⟨q1,q2⟩:=hxr;obtain ⟨i,y3⟩:=xr;dsimp only at q1 q2 ⊢;have hz4:=hrg (X.getD i 0) (by rw [List.getD_eq_getElem?_getD,List.getElem?_eq_getElem (by omega)];exact List.getElem_mem _);obtain ⟨X1,hX1⟩:∃X1,X.set i (X.getD i 0-1)=X1:=⟨_,rfl⟩;have hX1l:X1.length=P:=by rw [←hX1,List.length_set];omega
   have hX1b:∀j:Nat,-1000000000≤X1.getD j 0∧X1.getD j 0≤1000000000:=fun j=>by
    by_cases hj:j<X1.length
    ·have hm:X1.getD j 0∈X1:=by rw [List.getD_eq_getElem?_getD,List.getElem?_eq_getElem hj];exact List.getElem_mem _
     rw [←hX1] at hm;rcases List.mem_or_eq_of_mem_set hm with h|h
     ·have:=hrg _ h;rw [←hX1];omega
     ·rw [←hX1];omega
    ·rw [List.getD_eq_getElem?_getD,List.getElem?_eq_none (by omega)];simp
   rw [hX1];have bb:=Av (x:=y3) (n:=P) (by omega) (by omega);have CB2:=BI y3 P (by omega);obtain ⟨k2,hk2⟩:∃k2,BC y3 P=k2:=⟨_,rfl⟩;rw [hk2] at bb;have A:=I3 (X:=X1) (z:=k2) bb.1 (by omega) hX1b;have a1:=A.lt;have a2:=A.up;have a3:=A.st;have hX2l:=Cy X1 k2;obtain ⟨X2,hX2⟩:∃X2,Aq X1 k2=X2:=⟨_,rfl⟩;rw [hX2] at a3 hX2l;have hT2:X2.take X.length=X2:=List.take_of_length_le (by omega);have hT3:X.length≤X2.length:=by omega
   have CFu:=Fo s ⟨X2,ms⟩ (by dsimp only;omega) (by dsimp only;omega);rw [hXl];rw [hXl] at hT2 hT3;cases hfu2:Am s ⟨X2,ms⟩ with
   | true =>
    rw [hfu2] at CFu;(have fa:=(And.intro @Af.eq_1 (And.intro hk2 (And.intro a2 (And.intro a3 (And.intro hT2 hT3)))));(repeat' first|refine zS CP ?_|refine zJ (tg [0]) CB2 ?_|refine zS CFu ?_|refine zQ ?_|refine zN ?_;intro K hC hK|refine zM ?_;try clear hK hC K|refine zC ?_ ?_<;>intro hb|refine zK ?_;intro Jo JU JC AH AJ AG)<;>(try clear fa))
    refine Aa [(0,0),(1281,1)] ?_ ?_<;>(first|exact AK|refine zE ?_);exact ⟨_,An.agg (by (repeat first|exact EO.nil|refine GQ ?_)),⟨ms,X2,1,AR y3⟩,⟨by dsimp only;omega,hfu2⟩,rfl,rfl⟩
   | false =>
    rw [hfu2] at CFu;(have fa:=(And.intro @Af.eq_1 (And.intro hk2 (And.intro a2 (And.intro a3 (And.intro hT2 hT3)))));(repeat' first|refine zS CP ?_|refine zJ (tg [0]) CB2 ?_|refine zS CFu ?_|refine zQ ?_|refine zN ?_;intro K hC hK|refine zM ?_;try clear hK hC K|refine zC ?_ ?_<;>intro hb|refine zK ?_;intro Jo JU JC AH AJ AG)<;>(try clear fa))
    refine Aa [(0,0),(241,1)] ?_ ?_<;>(first|exact AK|refine zE ?_);exact ⟨_,An.agg (by (repeat first|exact EO.nil|refine GQ ?_)),⟨ms,X,0,AR y3⟩,⟨hXl,hfu⟩,rfl,rfl⟩
  ·(have fa:=(And.intro @Af.eq_1 @Ay);(repeat' first|refine zJ (tg [0]) (Dt y 6 (by omega)) ?_|refine zJ (tg [0]) (Dt (AR y) 3 (by omega)) ?_|refine zQ ?_|refine zN ?_;intro K hC hK|refine zM ?_;try clear hK hC K|refine zC ?_ ?_<;>intro hb|refine zK ?_;intro Jo JU JC AH AJ AG)<;>(try clear fa))
   refine Aa [(0,0),(241,1)] ?_ ?_<;>(first|exact AK|refine zE ?_);exact ⟨_,An.agg (by (repeat first|exact EO.nil|refine GQ ?_)),⟨ms,X,0,AR (AR y)⟩,⟨hXl,hfu⟩,rfl,rfl⟩
 ·cases ok with
  | false =>
   (repeat' first|refine zQ ?_|refine zN ?_;intro K hC hK|refine zM ?_;try clear hK hC K|refine zC ?_ ?_<;>intro hb|refine zK ?_;intro Jo JU JC AH AJ AG)
   (have fa:= @Af.eq_1;refine zX (tg [0]) (CBu y) ?_;clear AH AJ AG Jo JU JC;(try clear fa));intro xr hxr;obtain ⟨Mo,Y2,F2⟩:=hxr.fi;have hX2:=F2.xl;have CF2:=CFi xr.x ⟨xr.X,xr.ms⟩ Mo (by dsimp only;omega) ⟨P,xr.X,Y2,rfl,F2⟩;have hTZ:xr.X.take P=xr.X:=List.take_of_length_le (by omega);have hTZ2:P≤xr.X.length:=by omega
   clear hxr;obtain ⟨ms2,gl2,X2,ok2,y2⟩:=xr;dsimp only at Mo F2 hX2 CF2 hTZ hTZ2 ⊢;(have fa:=(And.intro hTZ hTZ2);(repeat' first|refine zQ ?_|refine zN ?_;intro K hC hK|refine zM ?_;try clear hK hC K|refine zC ?_ ?_<;>intro hb|refine zK ?_;intro Jo JU JC AH AJ AG)<;>(try clear fa))
   (have fa:=(And.intro @Af.eq_1 (And.intro hTZ hTZ2));refine jY (tg [0]) (CF2) ?_;clear AH AJ AG Jo JU JC;(try clear fa));intro xr hxr;(repeat' first|refine zQ ?_|refine zN ?_;intro K hC hK|refine zM ?_;try clear hK hC K|refine zC ?_ ?_<;>intro hb|refine zK ?_;intro Jo JU JC AH AJ AG)
   refine Aa [(0,0),(1361,1)] ?_ ?_<;>(first|exact AK|refine zE ?_);exact ⟨_,An.agg (by (repeat first|exact EO.nil|refine GQ ?_)),⟨ms2,xr.1,0,xr.2⟩,⟨hxr.2,hxr.1⟩,rfl,rfl⟩
  | true =>
   have h6:BC y 6=0:=by
    by_cases h6:BC y 6=0
    ·exact h6
    ·exact absurd ⟨rfl,h6⟩ hg
   (have fa:=(And.intro @Af.eq_1 @Ay);(repeat' first|refine zJ (tg [0]) (Dt y 6 (by omega)) ?_|refine zQ ?_|refine zN ?_;intro K hC hK|refine zM ?_;try clear hK hC K|refine zC ?_ ?_<;>intro hb|refine zK ?_;intro Jo JU JC AH AJ AG)<;>(try clear fa))
   (have fa:= @Af.eq_1;refine zX (tg [0]) (CBu (AR y)) ?_;clear AH AJ AG Jo JU JC;(try clear fa));intro xr hxr;obtain ⟨Mo,Y2,F2⟩:=hxr.fi;have hX2:=F2.xl;have CF2:=CFi xr.x ⟨xr.X,xr.ms⟩ Mo (by dsimp only;omega) ⟨P,xr.X,Y2,rfl,F2⟩;have hTZ:xr.X.take P=xr.X:=List.take_of_length_le (by omega);have hTZ2:P≤xr.X.length:=by omega
   clear hxr;obtain ⟨ms2,gl2,X2,ok2,y2⟩:=xr;dsimp only at Mo F2 hX2 CF2 hTZ hTZ2 ⊢;(have fa:=(And.intro hTZ hTZ2);(repeat' first|refine zQ ?_|refine zN ?_;intro K hC hK|refine zM ?_;try clear hK hC K|refine zC ?_ ?_<;>intro hb|refine zK ?_;intro Jo JU JC AH AJ AG)<;>(try clear fa))
   (have fa:=(And.intro @Af.eq_1 (And.intro hTZ hTZ2));refine jY (tg [0]) (CF2) ?_;clear AH AJ AG Jo JU JC;(try clear fa));intro xr hxr;(repeat' first|refine zQ ?_|refine zN ?_;intro K hC hK|refine zM ?_;try clear hK hC K|refine zC ?_ ?_<;>intro hb|refine zK ?_;intro Jo JU JC AH AJ AG)
   refine Aa [(0,0),(1393,1)] ?_ ?_<;>(first|exact AK|refine zE ?_);exact ⟨_,An.agg (by (repeat first|exact EO.nil|refine GQ ?_)),⟨ms2,xr.1,0,xr.2⟩,⟨hxr.2,hxr.1⟩,rfl,rfl⟩
theorem I8 {s:AL} (hv:AP s=0):Az s ⟨1,[],false⟩=0:=by
 unfold Az;rw [if_neg (by simp [hv]),if_neg (by simp),if_neg (by unfold Cs;simp)];rfl
@[go_sem] theorem uY (f:Bool) (l:List Fm):(∀u∈l.map (DN f),∀v∈u.cs,v.one=true)=True:=L7 (fun x v hv=>by simp [DN,AV.cs] at hv;rcases hv with rfl|rfl|rfl<;>rfl) l
theorem PK (zs:List Int) (hz:zs.length≤9223372036854775807):Bb Tryz.prog 44 [AN false zs] [] (fun v hl=>∃x,v= .ref 0 0 0 0∧hl=Af x):=by
 refine zb Tryz.ntmps44 ?_;let tb:=dY;let lv:=ZT;(repeat' first|refine zQ ?_|refine zN ?_;intro K hC hK|refine zM ?_;try clear hK hC K|refine zC ?_ ?_<;>intro hb|refine zK ?_;intro Jo JU JC AH AJ AG)
 refine A8 (kE (r:=32) (es' :=[U 2685821657736338717]) (by rfl) (by rfl)) (α:=Nat×Int) (fun x=>[(0,AN false zs),(3, .ref 0 0 0 0),(4,I x.1)]) (fun x=>[(0, .arr 0 1 [U x.2])]) (fun x=>zs.length-x.1) (fun x=>x.1≤zs.length) [(32,0)] [(0,0)] 0 [0,3,4] 900 zf zf (0,2685821657736338717) (Nat.zero_le _) (by exact CZ) ?_;rintro ⟨k,x⟩ hk J hcJ hJ;dsimp only at hk hJ ⊢;by_cases h:k<zs.length
 ·(repeat' first|refine zQ ?_|refine zN ?_;intro K hC hK|refine zM ?_;try clear hK hC K|refine zC ?_ ?_<;>intro hb|refine zK ?_;intro Jo JU JC AH AJ AG)
  refine hJ _ (k+1,_) (by dsimp only;omega) (by dsimp only;omega) (by exact CZ)
 ·(repeat' first|refine zQ ?_|refine zN ?_;intro K hC hK|refine zM ?_;try clear hK hC K|refine zC ?_ ?_<;>intro hb|refine zK ?_;intro Jo JU JC AH AJ AG)
  refine Aa [(0,0)] ?_ ?_<;>(first|exact AK|refine zE ?_);exact ⟨x,rfl⟩
theorem Lb (a b:List Int) (ha:a.length≤1000000):AM Tryz.prog 35 [AN false a,AN false b] (B (decide (a=b))):=by
 by_cases hl:a.length=b.length
 ·refine zb Tryz.ntmps35 ?_;let tb:=XH;let lv:=Tw;(repeat' first|refine zQ ?_|refine zN ?_;intro K hC hK|refine zM ?_;try clear hK hC K|refine zC ?_ ?_<;>intro hb|refine zK ?_;intro Jo JU JC AH AJ AG)
  refine Ab a.length (fun k σ=>(∀i,(h1:i<a.length)→(h2:i<b.length)→i<k→a[i]=b[i])∧σ=⟨900,[(0,AN false a),(1,AN false b),(5,I k)],[]⟩) [] [] 0 [0,1,5] 900 zf zf ⟨fun i _ _ h=>absurd h (Nat.not_lt_zero i),by exact zV⟩ ?_;rintro k σ' hk ⟨hR,rfl⟩ J hcJ hJ;by_cases hlt:k<a.length
  ·have hlt' :k<b.length:=by omega
   by_cases he:a[k]=b[k]
   ·(have fa:=(And.intro he @bne_self_eq_false.{0});(repeat' first|refine zQ ?_|refine zN ?_;intro K hC hK|refine zM ?_;try clear hK hC K|refine zC ?_ ?_<;>intro hb|refine zK ?_;intro Jo JU JC AH AJ AG)<;>(try clear fa))
    refine hJ _ hlt ⟨fun i h1 h2 h3=> ?_,by exact zV⟩;by_cases hi:i=k
    ·subst hi;exact he
    ·exact hR i h1 h2 (by omega)
   ·have hne:¬a=b:=fun e=>he (by simp [e])
    (repeat' first|refine zQ ?_|refine zN ?_;intro K hC hK|refine zM ?_;try clear hK hC K|refine zC ?_ ?_<;>intro hb|refine zK ?_;intro Jo JU JC AH AJ AG)
    refine Aa [] ?_ ?_<;>(first|exact AK|refine zE ?_);rw [decide_eq_false hne]
  ·obtain rfl:k=a.length:=by omega
   have he:a=b:=Ff hl fun i h1 h2=>hR i h1 h2 h1
   (repeat' first|refine zQ ?_|refine zN ?_;intro K hC hK|refine zM ?_;try clear hK hC K|refine zC ?_ ?_<;>intro hb|refine zK ?_;intro Jo JU JC AH AJ AG)
   refine Aa [] ?_ ?_<;>(first|exact AK|refine zE ?_);rw [decide_eq_true he]
 ·have he:¬a=b:=fun e=>hl (by rw [e])
  rw [decide_eq_false he];refine zb Tryz.ntmps35 ?_;let tb:=XH;let lv:=Tw;(repeat' first|refine zQ ?_|refine zN ?_;intro K hC hK|refine zM ?_;try clear hK hC K|refine zC ?_ ?_<;>intro hb|refine zK ?_;intro Jo JU JC AH AJ AG)
  refine Aa [] ?_ ?_<;>(first|exact AK|refine zE ?_)
theorem RX:AM Tryz.prog 47 [] (Bh true Ma):=by
 refine Ba ?_;refine zb Tryz.ntmps47 ?_;let tb:=eL;let lv:=Z3;(repeat' first|refine zQ ?_|refine zN ?_;intro K hC hK|refine zM ?_;try clear hK hC K|refine zC ?_ ?_<;>intro hb|refine zK ?_;intro Jo JU JC AH AJ AG)
 refine Aa [] ?_ ?_<;>(first|exact AK|refine zE ?_);refine An.slc rfl fun i e e' h h' => ?_
 cases i with
 | zero =>
  simp [Ma] at h h';subst h h';exact .cons .rfl' (.cons (An.nil _ _) (.cons .rfl' .nil))
 | succ i=>simp at h
theorem K3 (a b c d:Int):AM Tryz.prog 68 [I a,I b,I c,I d,Bw] (Cb true ⟨[a,b,c,d],[]⟩):=by
 refine Ba ?_;refine zb Tryz.ntmps68 ?_;let tb:=dX;let lv:=aA;(repeat' first|refine zQ ?_|refine zN ?_;intro K hC hK|refine zM ?_;try clear hK hC K|refine zC ?_ ?_<;>intro hb|refine zK ?_;intro Jo JU JC AH AJ AG)
 refine Aa [] ?_ ?_<;>(first|exact AK|refine zE ?_);exact An.agg (.cons .rfl' (.cons (An.nil _ _) .nil))
instance rgDec:DecidableEq Rg:=fun a b=>if h:a.fm=b.fm∧a.gs=b.gs∧a.at_=b.at_ then isTrue (by cases a;cases b;simp_all) else isFalse (by rintro rfl;simp at h)
theorem VM:GI Eh ⟨[1,1,3,0],[]⟩ (PM Eh ⟨[1,1,3,0],[]⟩) Ma 2=[⟨0,[gp 1 0,gp 4 2],0⟩,⟨0,[gp 1 0,gp 4 2],1⟩]:=by decide +kernel
theorem Ua:DC Eh ⟨[1,1,1,1],[]⟩ Ma (fun k=>Dn Eh ⟨Aq [1,1,1,1] k,[]⟩ (PM Eh ⟨Aq [1,1,1,1] k,[]⟩) Ma)=[3]:=by decide +kernel
theorem WJ:Yx Eh (PM Eh ⟨[1,1,3,0],[]⟩ ⟨1,[],false⟩):=by
 have e:PM Eh ⟨[1,1,3,0],[]⟩ ⟨1,[],false⟩=[[gp 1 0,gp 4 2]]:=by decide +kernel
 rw [e];refine ⟨by simp,fun x hx=> ?_⟩;simp at hx;subst hx;refine ⟨by simp,by simp,fun g hg=> ?_⟩;simp at hg;rcases hg with rfl|rfl<;>decide +kernel
theorem UZ:Ag Eh ⟨[1,1,3,0],[]⟩=0:=by decide +kernel
theorem aO:AM Tryz.prog 28 [AO Eh,Bh false Ma,Cb false ⟨[1,1,3,0],[]⟩,I 2] (N0 false [⟨0,[gp 1 0,gp 4 2],0⟩,⟨0,[gp 1 0,gp 4 2],1⟩]):=by
 have:=JG Eh ⟨[1,1,3,0],[]⟩ (PM Eh ⟨[1,1,3,0],[]⟩) Ma 2 (by simp [Ma]) (by simp [Ma]) (by decide) (by simp) (by simp) fun _ _ f hf=>by
  simp [Ma] at hf;subst hf;exact ⟨WJ,LW _ _ _ rfl UZ⟩
 rw [VM] at this;exact this
theorem cC:AM Tryz.prog 36 [AO Eh,Bh false Ma,Cb false ⟨[1,1,1,1],[]⟩] (AN true [3]):=by
 have:=QM Eh ⟨[1,1,1,1],[]⟩ (by decide) (by simp) (by simp);rw [Ua] at this;exact this
theorem bS:AM Tryz.prog 20 [AO Eh, .agg [I 2,Bw,B false]] (I 3):=by
 have:=IF Eh ⟨2,[],false⟩ (by simp) (by decide);rw [show Az Eh ⟨2,[],false⟩=3 by decide +kernel] at this;exact OE (.cons .rfl' (.cons (An.agg (.cons .rfl' (.cons (An.nil false 1) (.cons .rfl' .nil)))) .nil)) this
set_option maxHeartbeats 4000000 in
theorem Gy:AM Tryz.prog 18 [] (B true):=by
 have CE:AM Tryz.prog 35 [AN false [3], .sl false 1 [I 3]] (B true):=Lb [3] [3] (by simp);have CS1:AM Tryz.prog 68 [I 1,I 1,I 3,I 0,Bw] (Cb true ⟨[1,1,3,0],[]⟩):=K3 1 1 3 0;have CS2:AM Tryz.prog 68 [I 1,I 1,I 1,I 1,Bw] (Cb true ⟨[1,1,1,1],[]⟩):=K3 1 1 1 1;refine zb Tryz.ntmps18 ?_;let tb:=iC;let lv:=ZI;(repeat' first|refine zS Uh ?_|refine zS RX ?_|refine zS CS1 ?_|refine zS CS2 ?_|refine zS aO ?_|refine zS cC ?_|refine zS bS ?_|refine zS CE ?_|refine zQ ?_|refine zN ?_;intro K hC hK|refine zM ?_;try clear hK hC K|refine zC ?_ ?_<;>intro hb|refine zK ?_;intro Jo JU JC AH AJ AG)
 refine Aa [] ?_ ?_<;>(first|exact AK|refine zE ?_)
def NJ (s:AL) (l:List Fm) (h:Hd):Bool:=decide (20<s.su.length) || decide (60<s.re.length) || decide (12<l.length) || decide (60<h.bag.length) || decide (10<h.me.length) || l.any fun f=>decide (60<f.ks.length)
set_option maxHeartbeats 4000000 in
theorem RT (s:AL) (l:List Fm) (h:Hd):AM Tryz.prog 17 [AO s,Bh false l,Cb false h] (B (NJ s l h)):=by
 obtain ⟨bag,me⟩:=h;by_cases c:20<s.su.length∨60<s.re.length∨12<l.length∨60<bag.length∨10<me.length
 ·have hU:NJ s l ⟨bag,me⟩=true:=by
   unfold NJ;rcases c with c|c|c|c|c<;>simp [c]
  rw [hU];refine zb Tryz.ntmps17 ?_;let tb:=Wz;let lv:=To;(repeat' first|refine zQ ?_|refine zN ?_;intro K hC hK|refine zM ?_;try clear hK hC K|refine zC ?_ ?_<;>intro hb|refine zK ?_;intro Jo JU JC AH AJ AG)
  all_goals first
   | (exfalso;omega)
   | (refine Aa [] ?_ ?_<;>(first|exact AK|refine zE ?_);done)
   | trace_state
 ·have hU:NJ s l ⟨bag,me⟩=l.any fun f=>decide (60<f.ks.length):=by
   unfold NJ;have c1:¬20<s.su.length:=by omega
   have c2:¬60<s.re.length:=by omega
   have c3:¬12<l.length:=by omega
   have c4:¬60<bag.length:=by omega
   have c5:¬10<me.length:=by omega
   simp [c1,c2,c3,c4,c5]
  refine zb Tryz.ntmps17 ?_;let tb:=Wz;let lv:=To;(repeat' first|refine zQ ?_|refine zN ?_;intro K hC hK|refine zM ?_;try clear hK hC K|refine zC ?_ ?_<;>intro hb|refine zK ?_;intro Jo JU JC AH AJ AG)
  refine Ab l.length (fun k σ=>(∀i,(hi:i<l.length)→i<k→¬60<l[i].ks.length)∧σ=⟨900,[(1,Bh false l),(7,I k)],[]⟩) [] [] 0 [1,7] 900 zf zf ⟨fun i _ h=>absurd h (Nat.not_lt_zero i),by exact zV⟩ ?_;rintro k σ' hk ⟨hR,rfl⟩ J hcJ hJ;by_cases hlt:k<l.length
  ·obtain ⟨f,hfk⟩:∃f,l[k]=f:=⟨_,rfl⟩;by_cases hb:60<f.ks.length
   ·(have fa:=hfk;(repeat' first|refine zQ ?_|refine zN ?_;intro K hC hK|refine zM ?_;try clear hK hC K|refine zC ?_ ?_<;>intro hb|refine zK ?_;intro Jo JU JC AH AJ AG)<;>(try clear fa))
    refine Aa [] ?_ ?_<;>(first|exact AK|refine zE ?_);rw [hU,show (l.any fun f=>decide (60<f.ks.length))=true from List.any_eq_true.2 ⟨f,by rw [←hfk];exact List.getElem_mem hlt,by simpa using hb⟩]
   ·(have fa:=hfk;(repeat' first|refine zQ ?_|refine zN ?_;intro K hC hK|refine zM ?_;try clear hK hC K|refine zC ?_ ?_<;>intro hb|refine zK ?_;intro Jo JU JC AH AJ AG)<;>(try clear fa))
    refine hJ _ hlt ⟨fun i hi h2=> ?_,by exact zV⟩;by_cases e:i=k
    ·subst e;rw [hfk];exact hb
    ·exact hR i hi (by omega)
  ·(repeat' first|refine zQ ?_|refine zN ?_;intro K hC hK|refine zM ?_;try clear hK hC K|refine zC ?_ ?_<;>intro hb|refine zK ?_;intro Jo JU JC AH AJ AG)
   refine Aa [] ?_ ?_<;>(first|exact AK|refine zE ?_);rw [hU,show (l.any fun f=>decide (60<f.ks.length))=false from List.any_eq_false.2 fun f hf=>by
    obtain ⟨i,hi,rfl⟩:=List.mem_iff_getElem.1 hf
    simpa using hR i hi (by omega)]
end Go.Proofs.YthblfhgofopcaaaGreat
