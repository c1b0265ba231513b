/-
  Parts of the proof: KitW, KitH, FmL, KitS, Lw.
-/
import Derived.Test.YthblfhgofopcaaaGreatSH13
import Derived.Test.YthblfhgofopcaaaGreatSH14
import Derived.Test.YthblfhgofopcaaaGreatTU16
import Derived.Test.YthblfhgofopcaaaGreatTU19
import Derived.Test.YthblfhgofopcaaaGreatTU21
set_option linter.all false
namespace Go.Proofs.YthblfhgofopcaaaGreat
open Go.RowKit
set_option maxRecDepth 100000
set_option maxHeartbeats 2000000
theorem Oh (x:Int) (h:Hd) (hl:h.bag.length≤1000) (hm:h.me.length≤1000) (hz:∀z∈h.bag,0≤z∧z≤1000) (hs:1≤h.bag.sum):Hn Tryz.prog 32 [.ref 0 0 0 0,Cb false h] (Af x) (fun _:Nat×Int=> .agg [.rsl 1 1 0 h.bag.length,AX true h.me]) (fun a=>[(0, .arr 0 1 [U a.2]),(1, .arr 1 1 ((h.bag.set a.1 (h.bag.getD a.1 0-1)).map I))]) (fun a=>a.1<h.bag.length∧1≤h.bag.getD a.1 0):=by
 have CC:=Ej h (by omega) (by omega);have CT:=FE h.bag (by omega);have hw:JM h.bag=h.bag.sum:=G6 (m:=1000) (fun z hz' =>by have:=hz z hz';omega) (by omega) (by omega);rw [hw] at CT;have hsb:h.bag.sum≤1000000:=by
  have:=NC (c:=1000) (fun z hz' =>(hz z hz').2);have:(h.bag.length:Int)*1000≤1000*1000:=by omega
  omega
 have hst:=fun (i:Nat)=>GG h.bag i (fun z hz' =>(hz z hz').1)
 obtain ⟨S,hS⟩:∃S,h.bag.sum=S:=⟨_,rfl⟩;rw [hS] at CT hs hsb hst;have b1:=Av (x:=x) (n:=S) (by omega) (by omega);have CB:=BI x S (by omega);unfold Hn Af;refine DX ?_;refine FL 1 Tryz.ntmps32 ?_;let tb:=eS;let lv:=Zu;(have fa:= @Af.eq_1;(repeat' first|refine zO CC ?_|refine zS CT ?_|refine zJ (tg [0]) CB ?_|refine zQ ?_|refine zN ?_;intro K hC hK|refine zM ?_;try clear hK hC K|refine zC ?_ ?_<;>intro hb|refine zK ?_;intro Jo JU JC AH AJ AG)<;>(try clear fa))
 obtain ⟨x1,hx1⟩:∃x1,AR x=x1:=⟨_,rfl⟩;obtain ⟨a0,ha0⟩:∃a0,BC x S=a0:=⟨_,rfl⟩;rw [ha0] at b1;rw [hx1,ha0];refine At (α:=Nat×Int) (fun a=>[(4, .ref 1 0 0 0),(5, .ref 2 0 0 0),(6,I a.2),(7,I a.1)]) (fun a=>[(0, .arr 0 1 [U x1]),(1, .arr 0 2 [.agg [Bw,Bw]]),(2, .arr 0 2 [.agg [.rsl 3 1 0 h.bag.length, .rsl 4 1 0 h.me.length]]),(3, .arr 1 1 (h.bag.map I)),(4, .arr 1 3 (h.me.map AZ))])
  (fun a=>h.bag.length-a.1) (fun a=>a.1≤h.bag.length∧a.2=a0-(h.bag.take a.1).sum∧0≤a.2) [(0,0),(80,1),(128,2),(112,3),(113,4)] [(0,0),(1,1),(2,2),(3,3),(4,4)] 0 [4,5,6,7] 900 zg zg (0,a0) ⟨by dsimp only;omega,by simp,by dsimp only;omega⟩ (by exact CZ) ?_
 rintro ⟨k,a⟩ ⟨k1,k2,k3⟩ J hcJ hJ;dsimp only at k1 k2 k3 hJ ⊢;by_cases hk:k<h.bag.length
 ·obtain ⟨z,hzz⟩:∃z,h.bag[k]=z:=⟨_,rfl⟩;have hzb:=hz z (by rw [←hzz];exact List.getElem_mem hk);have hg:h.bag.getD k 0=z:=by simp [hk,hzz]
  have hts:=D9 h.bag hk;rw [hzz] at hts;have hs0:0≤(h.bag.take k).sum:=GJ fun y hy=>(hz y (List.mem_of_mem_take hy)).1
  by_cases ha:a<z
  ·have hse:(h.bag.map I).set k (I (z-1))=(h.bag.set k (z-1)).map I:=(List.map_set ..).symm;(have fa:=(And.intro hzz hse);(repeat' first|refine zQ ?_|refine zN ?_;intro K hC hK|refine zM ?_;try clear hK hC K|refine zC ?_ ?_<;>intro hb|refine zK ?_;intro Jo JU JC AH AJ AG)<;>(try clear fa))
   refine Aa [(0,0),(3,1)] ?_ ?_<;>(first|exact AK|refine zE ?_);refine ⟨.agg [.rsl 1 1 0 h.bag.length,AX true h.me],?_,(k,x1),⟨hk,by dsimp only;omega⟩,rfl,?_⟩
   ·refine An.agg ?_;(repeat first|exact EO.nil|refine GQ ?_)
   ·rw [hg]
  ·(have fa:=hzz;(repeat' first|refine zQ ?_|refine zN ?_;intro K hC hK|refine zM ?_;try clear hK hC K|refine zC ?_ ?_<;>intro hb|refine zK ?_;intro Jo JU JC AH AJ AG)<;>(try clear fa))
   refine hJ _ (k+1,a-z) (by dsimp only;omega) ⟨by dsimp only;omega,by dsimp only;omega,by dsimp only;omega⟩ (by exact CZ)
 ·have hT:h.bag.take k=h.bag:=List.take_of_length_le (by omega);rw [hT,hS] at k2;omega
structure HR where
 ms:List Gp
 X:List Int
 g:Nat
 x:Int
structure rW (s:AL) (P:Nat) (a:HR):Prop where
 xl:a.X.length=P
 full:Am s ⟨a.X,a.ms⟩=true
set_option maxHeartbeats 8000000 in
theorem Qa (x:Int) (s:AL) (hM:Jn s) (fs:List Fm) (hf:∀f∈fs,Az s f=0∧f.ks.length≤1000) (h1:1≤fs.length) (h3:fs.length≤3):Hn Tryz.prog 85 [.ref 0 0 0 0,AO s,Bh false fs] (Af x) (fun a:HR=> .agg [.rsl 1 a.g 0 (AQ s).toNat,AX false a.ms]) (fun a=>[(0, .arr 0 1 [U a.x]),(1, .arr a.g 1 (a.X.map I))]) (rW s (AQ s).toNat):=by
 have hv:=hM.ok;obtain ⟨p1,p2,p3,p4⟩:=A7 hv;have V:=AU hv;have hme:=V.me;have hco:=V.co;have CP:=Cm s (by have:=V.su3;omega);rw [p1] at CP;have b0:=Av (x:=x) (n:=fs.length) (by omega) (by omega);have CB:=BI x fs.length (by omega);obtain ⟨k,hk⟩:∃k,BC x fs.length=k:=⟨_,rfl⟩;rw [hk] at b0;have hkl:k.toNat<fs.length:=by omega
 obtain ⟨f,hfk⟩:∃f,fs[k.toNat]=f:=⟨_,rfl⟩;have hff:=hf f (by rw [←hfk];exact List.getElem_mem hkl);have CW:=jV (AR x) s hM f hff.1 hff.2;have CBu:=fun x' =>UF x' s hM
 have CFi:=fun x' h Mo hl hF=>XW x' s hM h Mo hl hF
 obtain ⟨P,hP⟩:∃P:Nat,AQ s=(P:Int):=⟨(AQ s).toNat,by omega⟩;rw [hP] at CP p3 p4 CW CBu CFi ⊢;simp only [Int.toNat_natCast] at CW CBu CFi ⊢;clear V;unfold Hn Af;refine DX ?_;refine FL 1 Tryz.ntmps85 ?_;let tb:=fB;let lv:=ZY;(have fa:=(And.intro @Af.eq_1 (And.intro hk (And.intro hfk @Ay)));(repeat' first|refine zJ (tg [0]) CB ?_|refine zQ ?_|refine zN ?_;intro K hC hK|refine zM ?_;try clear hK hC K|refine zC ?_ ?_<;>intro hb|refine zK ?_;intro Jo JU JC AH AJ AG)<;>(try clear fa))
 (have fa:= @Af.eq_1;refine r9 (tg [0]) (CW) ?_;clear AH AJ AG Jo JU JC;(try clear fa));intro xr hxr;have hXl:=hxr.xl;have hXy:=hxr.yes;obtain ⟨ms,X,ok,y⟩:=xr;dsimp only at hXl hXy ⊢;clear hxr;have hTX:X.take P=X:=List.take_of_length_le (by omega);have hTX2:P≤X.length:=by omega
 by_cases hg:ok=true∧¬BC y 6=0
 ·obtain ⟨rfl,h6⟩:=hg;have hfu:=hXy rfl;have ho:G5 s ⟨X,ms⟩:=DP (by unfold Am at hfu;simp at hfu;exact hfu.1);have hrg:=ho.rg;have hmm:=ho.mm;have hlo:=ho.lo;dsimp only at hrg hmm hlo;have CWo:=Oh (AR (AR y)) ⟨X,ms⟩ (by dsimp only;omega) (by dsimp only;omega) (fun z hz=>by have:=hrg z hz;omega) (by dsimp only;omega);by_cases h3:BC (AR y) 3=0
  ·(have fa:=(And.intro @Af.eq_1 (And.intro hTX (And.intro hTX2 @Ay)));(repeat' first|refine zJ (tg [0]) (Dt y 6 (by omega)) ?_|refine zJ (tg [0]) (Dt (AR y) 3 (by omega)) ?_|refine zQ ?_|refine zN ?_;intro K hC hK|refine zM ?_;try clear hK hC K|refine zC ?_ ?_<;>intro hb|refine zK ?_;intro Jo JU JC AH AJ AG)<;>(try clear fa))
   (have fa:=(And.intro @Af.eq_1 (And.intro hTX hTX2));refine jY (tg [0]) (CWo) ?_;clear AH AJ AG Jo JU JC;(try clear fa));intro xr hxr;obtain ⟨q1,q2⟩:=hxr;obtain ⟨i,y3⟩:=xr;dsimp only at q1 q2 ⊢;have hz4:=hrg (X.getD i 0) (by rw [List.getD_eq_getElem?_getD,List.getElem?_eq_getElem (by omega)];exact List.getElem_mem _);obtain ⟨X1,hX1⟩:∃X1,X.set i (X.getD i 0-1)=X1:=⟨_,rfl⟩;have hX1l:X1.length=P:=by rw [←hX1,List.length_set];omega
   have hX1b:∀j:Nat,-1000000000≤X1.getD j 0∧X1.getD j 0≤1000000000:=fun j=>by
    by_cases hj:j<X1.length
    ·have hm:X1.getD j 0∈X1:=by rw [List.getD_eq_getElem?_getD,List.getElem?_eq_getElem hj];exact List.getElem_mem _
     rw [←hX1] at hm;rcases List.mem_or_eq_of_mem_set hm with h|h
     ·have:=hrg _ h;rw [←hX1];omega
     ·rw [←hX1];omega
    ·rw [List.getD_eq_getElem?_getD,List.getElem?_eq_none (by omega)];simp
   rw [hX1];have bb:=Av (x:=y3) (n:=P) (by omega) (by omega);have CB2:=BI y3 P (by omega);obtain ⟨k2,hk2⟩:∃k2,BC y3 P=k2:=⟨_,rfl⟩;rw [hk2] at bb;have A:=I3 (X:=X1) (z:=k2) bb.1 (by omega) hX1b;have a1:=A.lt;have a2:=A.up;have a3:=A.st;have hX2l:=Cy X1 k2;obtain ⟨X2,hX2⟩:∃X2,Aq X1 k2=X2:=⟨_,rfl⟩;rw [hX2] at a3 hX2l;have hT2:X2.take X.length=X2:=List.take_of_length_le (by omega);have hT3:X.length≤X2.length:=by omega
   have CFu:=Fo s ⟨X2,ms⟩ (by dsimp only;omega) (by dsimp only;omega);rw [hXl];rw [hXl] at hT2 hT3;cases hfu2:Am s ⟨X2,ms⟩ with
   | true =>
    rw [hfu2] at CFu;(have fa:=(And.intro @Af.eq_1 (And.intro hk2 (And.intro a2 (And.intro a3 (And.intro hT2 hT3)))));(repeat' first|refine zS CP ?_|refine zJ (tg [0]) CB2 ?_|refine zS CFu ?_|refine zQ ?_|refine zN ?_;intro K hC hK|refine zM ?_;try clear hK hC K|refine zC ?_ ?_<;>intro hb|refine zK ?_;intro Jo JU JC AH AJ AG)<;>(try clear fa))
    refine Aa [(0,0),(1281,1)] ?_ ?_<;>(first|exact AK|refine zE ?_);exact ⟨_,An.agg (by (repeat first|exact EO.nil|refine GQ ?_)),⟨ms,X2,1,AR y3⟩,⟨by dsimp only;omega,hfu2⟩,rfl,rfl⟩
   | false =>
    rw [hfu2] at CFu;(have fa:=(And.intro @Af.eq_1 (And.intro hk2 (And.intro a2 (And.intro a3 (And.intro hT2 hT3)))));(repeat' first|refine zS CP ?_|refine zJ (tg [0]) CB2 ?_|refine zS CFu ?_|refine zQ ?_|refine zN ?_;intro K hC hK|refine zM ?_;try clear hK hC K|refine zC ?_ ?_<;>intro hb|refine zK ?_;intro Jo JU JC AH AJ AG)<;>(try clear fa))
    refine Aa [(0,0),(241,1)] ?_ ?_<;>(first|exact AK|refine zE ?_);exact ⟨_,An.agg (by (repeat first|exact EO.nil|refine GQ ?_)),⟨ms,X,0,AR y3⟩,⟨hXl,hfu⟩,rfl,rfl⟩
  ·(have fa:=(And.intro @Af.eq_1 @Ay);(repeat' first|refine zJ (tg [0]) (Dt y 6 (by omega)) ?_|refine zJ (tg [0]) (Dt (AR y) 3 (by omega)) ?_|refine zQ ?_|refine zN ?_;intro K hC hK|refine zM ?_;try clear hK hC K|refine zC ?_ ?_<;>intro hb|refine zK ?_;intro Jo JU JC AH AJ AG)<;>(try clear fa))
   refine Aa [(0,0),(241,1)] ?_ ?_<;>(first|exact AK|refine zE ?_);exact ⟨_,An.agg (by (repeat first|exact EO.nil|refine GQ ?_)),⟨ms,X,0,AR (AR y)⟩,⟨hXl,hfu⟩,rfl,rfl⟩
 ·cases ok with
  | false =>
   (repeat' first|refine zQ ?_|refine zN ?_;intro K hC hK|refine zM ?_;try clear hK hC K|refine zC ?_ ?_<;>intro hb|refine zK ?_;intro Jo JU JC AH AJ AG)
   (have fa:= @Af.eq_1;refine zX (tg [0]) (CBu y) ?_;clear AH AJ AG Jo JU JC;(try clear fa));intro xr hxr;obtain ⟨Mo,Y2,F2⟩:=hxr.fi;have hX2:=F2.xl;have CF2:=CFi xr.x ⟨xr.X,xr.ms⟩ Mo (by dsimp only;omega) ⟨P,xr.X,Y2,rfl,F2⟩;have hTZ:xr.X.take P=xr.X:=List.take_of_length_le (by omega);have hTZ2:P≤xr.X.length:=by omega
   clear hxr;obtain ⟨ms2,gl2,X2,ok2,y2⟩:=xr;dsimp only at Mo F2 hX2 CF2 hTZ hTZ2 ⊢;(have fa:=(And.intro hTZ hTZ2);(repeat' first|refine zQ ?_|refine zN ?_;intro K hC hK|refine zM ?_;try clear hK hC K|refine zC ?_ ?_<;>intro hb|refine zK ?_;intro Jo JU JC AH AJ AG)<;>(try clear fa))
   (have fa:=(And.intro @Af.eq_1 (And.intro hTZ hTZ2));refine jY (tg [0]) (CF2) ?_;clear AH AJ AG Jo JU JC;(try clear fa));intro xr hxr;(repeat' first|refine zQ ?_|refine zN ?_;intro K hC hK|refine zM ?_;try clear hK hC K|refine zC ?_ ?_<;>intro hb|refine zK ?_;intro Jo JU JC AH AJ AG)
   refine Aa [(0,0),(1361,1)] ?_ ?_<;>(first|exact AK|refine zE ?_);exact ⟨_,An.agg (by (repeat first|exact EO.nil|refine GQ ?_)),⟨ms2,xr.1,0,xr.2⟩,⟨hxr.2,hxr.1⟩,rfl,rfl⟩
  | true =>
   have h6:BC y 6=0:=by
    by_cases h6:BC y 6=0
    ·exact h6
    ·exact absurd ⟨rfl,h6⟩ hg
   (have fa:=(And.intro @Af.eq_1 @Ay);(repeat' first|refine zJ (tg [0]) (Dt y 6 (by omega)) ?_|refine zQ ?_|refine zN ?_;intro K hC hK|refine zM ?_;try clear hK hC K|refine zC ?_ ?_<;>intro hb|refine zK ?_;intro Jo JU JC AH AJ AG)<;>(try clear fa))
   (have fa:= @Af.eq_1;refine zX (tg [0]) (CBu (AR y)) ?_;clear AH AJ AG Jo JU JC;(try clear fa));intro xr hxr;obtain ⟨Mo,Y2,F2⟩:=hxr.fi;have hX2:=F2.xl;have CF2:=CFi xr.x ⟨xr.X,xr.ms⟩ Mo (by dsimp only;omega) ⟨P,xr.X,Y2,rfl,F2⟩;have hTZ:xr.X.take P=xr.X:=List.take_of_length_le (by omega);have hTZ2:P≤xr.X.length:=by omega
   clear hxr;obtain ⟨ms2,gl2,X2,ok2,y2⟩:=xr;dsimp only at Mo F2 hX2 CF2 hTZ hTZ2 ⊢;(have fa:=(And.intro hTZ hTZ2);(repeat' first|refine zQ ?_|refine zN ?_;intro K hC hK|refine zM ?_;try clear hK hC K|refine zC ?_ ?_<;>intro hb|refine zK ?_;intro Jo JU JC AH AJ AG)<;>(try clear fa))
   (have fa:=(And.intro @Af.eq_1 (And.intro hTZ hTZ2));refine jY (tg [0]) (CF2) ?_;clear AH AJ AG Jo JU JC;(try clear fa));intro xr hxr;(repeat' first|refine zQ ?_|refine zN ?_;intro K hC hK|refine zM ?_;try clear hK hC K|refine zC ?_ ?_<;>intro hb|refine zK ?_;intro Jo JU JC AH AJ AG)
   refine Aa [(0,0),(1393,1)] ?_ ?_<;>(first|exact AK|refine zE ?_);exact ⟨_,An.agg (by (repeat first|exact EO.nil|refine GQ ?_)),⟨ms2,xr.1,0,xr.2⟩,⟨hxr.2,hxr.1⟩,rfl,rfl⟩
theorem I8 {s:AL} (hv:AP s=0):Az s ⟨1,[],false⟩=0:=by
 unfold Az;rw [if_neg (by simp [hv]),if_neg (by simp),if_neg (by unfold Cs;simp)];rfl
@[go_sem] theorem uY (f:Bool) (l:List Fm):(∀u∈l.map (DN f),∀v∈u.cs,v.one=true)=True:=L7 (fun x v hv=>by simp [DN,AV.cs] at hv;rcases hv with rfl|rfl|rfl<;>rfl) l
theorem XM (l:List Fm) (m:Nat) (hm:m≤l.length) (i:Nat) (e e' :AV) (h:((l.take m).map (DN false)++[.agg [.v (.int .i64 1), .v (.slice none 0 0), .v (.bool false)]]++(l.drop m).map (DN false))[i]? =some e) (h' :((l.take m++⟨1,[],false⟩::l.drop m).map (DN false))[i]? =some e'):EO e.cs e'.cs:=by
 have refl:∀l:List AV,EO l l:=fun l=>by
  induction l with
  | nil=>exact .nil
  | cons x l ih=>exact .cons .rfl' ih
 rw [List.append_assoc] at h;rw [List.map_append,List.map_cons] at h';by_cases hi:i<m
 ·rw [List.getElem?_append_left (by simp;omega)] at h h';rw [h] at h';injection h' with h';subst h';exact refl _
 ·rw [List.getElem?_append_right (by simp;omega)] at h h';generalize i-((l.take m).map (DN false)).length=j at h h';cases j with
  | zero =>
   simp at h h';subst h h';exact .cons .rfl' (.cons (An.nil _ _) (.cons .rfl' .nil))
  | succ j =>
   simp at h h';obtain ⟨a,h1,h2⟩:=h;obtain ⟨b,h3,h4⟩:=h';rw [h1] at h3;injection h3 with h3;subst h3;rw [h2] at h4;subst h4;exact refl _
set_option maxHeartbeats 2000000 in
theorem Nr (x:Int) (s:AL) (hv:AP s=0):Hn Tryz.prog 43 [.ref 0 0 0 0,AO s] (Af x) (fun a:List Fm×Int=> .sl true 3 (a.1.map (DN false))) (fun a=>Af a.2) (fun a=>(∀f∈a.1,Az s f=0∧f.ks.length≤1000)∧1≤a.1.length∧a.1.length≤3):=by
 have CF:=fun x' =>Wr x' s hv
 have hsl:=(AU hv).su3;unfold Hn Af;refine DX ?_;have b1:=Av (x:=x) (n:=3) (by omega) (by omega);refine FL 1 Tryz.ntmps43 ?_;let tb:=fD;let lv:=Yt;(have fa:= @Af.eq_1;(repeat' first|refine zJ (tg [0]) (BI _ 3 (by omega)) ?_|refine zQ ?_|refine zN ?_;intro K hC hK|refine zM ?_;try clear hK hC K|refine zC ?_ ?_<;>intro hb|refine zK ?_;intro Jo JU JC AH AJ AG)<;>(try clear fa))
 generalize BC x 3=i0 at *;refine A8 (BY 5 500 0 3 (by rfl) (by rfl)) (α:=Int×List Fm×Nat×Int) (fun a=>[(0, .ref 0 0 0 0),(3, .ref 2 0 0 0),(5, .rsl 1 a.2.2.1 0 a.2.1.length),(6,I a.1)]) (fun a=>[(0, .arr 0 1 [U a.2.2.2]),(1, .arr a.2.2.1 3 (a.2.1.map (DN false))),(2, .arr 0 9 [AO s])])
  (fun a=>a.1.toNat) (fun a=>(0≤a.1∧a.1≤2)∧a.2.1.length+a.1≤2∧∀f∈a.2.1,Az s f=0∧f.ks.length≤1000) [(0,0),(500,1),(64,2)] [(0,0),(1,1),(2,2)] 0 [0,3,5,6] 900 zg zg (i0,[],0,AR x) ⟨by dsimp only;omega,by simp;omega,fun f hf=>by cases hf⟩ (by (have fa:=(And.intro @Dg.eq_1 (And.intro @Ci.eq_1 @Ci.eq_2));exact CZ)) ?_
 rintro ⟨i,l,g,x'⟩ ⟨k1,k2,k3⟩ J hcJ hJ;dsimp only at k1 k2 k3 hJ ⊢;by_cases hi:0<i
 ·(repeat' first|refine zQ ?_|refine zN ?_;intro K hC hK|refine zM ?_;try clear hK hC K|refine zC ?_ ?_<;>intro hb|refine zK ?_;intro Jo JU JC AH AJ AG)
  (have fa:= @Af.eq_1;refine zX (tg [0]) (CF _) ?_;clear AH AJ AG Jo JU JC;(try clear fa));intro xr hxr;have CC:=Hh s xr.1 (by omega) (by omega);by_cases he:Az s xr.1=0
  ·(repeat' first|refine zS CC ?_|refine zQ ?_|refine zN ?_;intro K hC hK|refine zM ?_;try clear hK hC K|refine zC ?_ ?_<;>intro hb|refine zK ?_;intro Jo JU JC AH AJ AG)
   refine hJ _ (i-1,l++[xr.1],g+1,xr.2) (by dsimp only;omega) ⟨by dsimp only;omega,by simp;omega,fun f hf=> ?_⟩ (by (have fa:= @List.length_append.{0};exact CZ));rcases List.mem_append.1 hf with hf|hf
   ·exact k3 f hf
   ·simp at hf;subst hf;exact ⟨he,hxr⟩
  ·(repeat' first|refine zS CC ?_|refine zQ ?_|refine zN ?_;intro K hC hK|refine zM ?_;try clear hK hC K|refine zC ?_ ?_<;>intro hb|refine zK ?_;intro Jo JU JC AH AJ AG)
   refine hJ _ (i-1,l,g,xr.2) (by dsimp only;omega) ⟨by dsimp only;omega,by dsimp only;omega,k3⟩ (by exact CZ)
 ·by_cases h0:l=[]
  ·subst h0;have b5:=Av (x:=x') (n:=1) (by omega) (by omega);have hm:BC x' 1=((0:Nat):Int):=by omega
   (have fa:=(And.intro @Af.eq_1 hm);(repeat' first|refine zJ (tg [0]) (BI x' 1 (by omega)) ?_|refine zQ ?_|refine zN ?_;intro K hC hK|refine zM ?_;try clear hK hC K|refine zC ?_ ?_<;>intro hb|refine zK ?_;intro Jo JU JC AH AJ AG)<;>(try clear fa))
   refine EH ?_;refine ⟨_,Wu (r:=1108) (es' :=[DN false ⟨1,[],false⟩]) (by rfl) (by rfl) (XM [] 0 (Nat.le_refl _)), .inr rfl,?_,[(0,0)],2,⟨by decide,by decide,by decide⟩,?_⟩<;>(first|exact AK|refine zE ?_);refine ⟨_, .rfl',([⟨1,[],false⟩],_),⟨fun f hf=> ?_,by simp,by simp⟩,rfl,rfl⟩;simp at hf;subst hf;exact ⟨I8 hv,by simp⟩
  ·have hpos:0<l.length:=List.length_pos_iff.2 h0;have b4:=Av (x:=x') (n:=4) (by omega) (by omega);by_cases h4:0<BC x' 4
   ·have CB:=BI (AR x') (l.length+1) (by omega);have b5:=Av (x:=AR x') (n:=l.length+1) (by omega) (by omega);obtain ⟨m,hm⟩:∃m:Nat,BC (AR x') (l.length+1)=(m:Int):=⟨(BC (AR x') (l.length+1)).toNat,by omega⟩;have hml:m≤l.length:=by omega
    have e13:(((m:Nat):Int)-0).toNat=m:=by omega
    have e14:min m l.length=m:=by omega
    have e16:List.take m (List.take m l)=l.take m:=by rw [List.take_take,Nat.min_self]
    have e18:List.take (l.length-m) (List.drop m l)=l.drop m:=List.take_of_length_le (by simp);have e19:List.take (m+1) ((l.take m).map (DN false)++[AV.agg [.v (.int .i64 1), .v (.slice none 0 0), .v (.bool false)]])=(l.take m).map (DN false)++[AV.agg [.v (.int .i64 1), .v (.slice none 0 0), .v (.bool false)]]:=List.take_of_length_le (by simp;omega);(have fa:=(And.intro @Af.eq_1 (And.intro hm (And.intro e13 (And.intro e14 (And.intro e16 (And.intro e18 (And.intro e19 Nat.min_self)))))));(repeat' first|refine zJ (tg [0]) (BI x' 4 (by omega)) ?_|refine zJ (tg [0]) CB ?_|refine zQ ?_|refine zN ?_;intro K hC hK|refine zM ?_;try clear hK hC K|refine zC ?_ ?_<;>intro hb|refine zK ?_;intro Jo JU JC AH AJ AG)<;>(try clear fa))
    have hlen:(l.take m++(⟨1,[],false⟩:Fm)::l.drop m).length=m+1+(l.length-m):=by simp;omega
    have hal:∀f∈l.take m++(⟨1,[],false⟩:Fm)::l.drop m,Az s f=0∧f.ks.length≤1000:=fun f hf=>by
     rcases List.mem_append.1 hf with hf|hf
     ·exact k3 f (List.mem_of_mem_take hf)
     ·rcases List.mem_cons.1 hf with rfl|hf
      ·exact ⟨I8 hv,by simp⟩
      ·exact k3 f (List.mem_of_mem_drop hf)
    have fi:=XM l m hml;obtain ⟨L,hL⟩:∃L,l.take m++(⟨1,[],false⟩:Fm)::l.drop m=L:=⟨_,rfl⟩;rw [hL] at hlen hal fi;have hT:L.take (m+1+(l.length-m))=L:=List.take_of_length_le (by omega);have hT2:m+1+(l.length-m)≤L.length:=by omega
    refine EH ?_;refine ⟨_,Wu (r:=1156) (es' :=L.map (DN false)) (by rfl) (by simp;omega) fi, .inr rfl,?_,[(0,0)],2,⟨by decide,by decide,by decide⟩,?_⟩<;>(have fa:=(And.intro hT hT2);first|exact AK|(refine zE ?_;try clear fa));exact ⟨_, .rfl',(L,_),⟨hal,by dsimp only;omega,by dsimp only;omega⟩,rfl,rfl⟩
   ·have hT:l.take l.length=l:=List.take_length;(have fa:= @Af.eq_1;(repeat' first|refine zJ (tg [0]) (BI x' 4 (by omega)) ?_|refine zQ ?_|refine zN ?_;intro K hC hK|refine zM ?_;try clear hK hC K|refine zC ?_ ?_<;>intro hb|refine zK ?_;intro Jo JU JC AH AJ AG)<;>(try clear fa))
    refine Aa [(0,0)] ?_ ?_<;>(first|exact AK|refine zE ?_);exact ⟨_, .rfl',(l,_),⟨k3,hpos,by dsimp only;omega⟩,rfl,rfl⟩
theorem PK (zs:List Int) (hz:zs.length≤9223372036854775807):Bb Tryz.prog 44 [AN false zs] [] (fun v hl=>∃x,v= .ref 0 0 0 0∧hl=Af x):=by
 refine zb Tryz.ntmps44 ?_;let tb:=dY;let lv:=ZT;(repeat' first|refine zQ ?_|refine zN ?_;intro K hC hK|refine zM ?_;try clear hK hC K|refine zC ?_ ?_<;>intro hb|refine zK ?_;intro Jo JU JC AH AJ AG)
 refine A8 (kE (r:=32) (es' :=[U 2685821657736338717]) (by rfl) (by rfl)) (α:=Nat×Int) (fun x=>[(0,AN false zs),(3, .ref 0 0 0 0),(4,I x.1)]) (fun x=>[(0, .arr 0 1 [U x.2])]) (fun x=>zs.length-x.1) (fun x=>x.1≤zs.length) [(32,0)] [(0,0)] 0 [0,3,4] 900 zf zf (0,2685821657736338717) (Nat.zero_le _) (by exact CZ) ?_;rintro ⟨k,x⟩ hk J hcJ hJ;dsimp only at hk hJ ⊢;by_cases h:k<zs.length
 ·(repeat' first|refine zQ ?_|refine zN ?_;intro K hC hK|refine zM ?_;try clear hK hC K|refine zC ?_ ?_<;>intro hb|refine zK ?_;intro Jo JU JC AH AJ AG)
  refine hJ _ (k+1,_) (by dsimp only;omega) (by dsimp only;omega) (by exact CZ)
 ·(repeat' first|refine zQ ?_|refine zN ?_;intro K hC hK|refine zM ?_;try clear hK hC K|refine zC ?_ ?_<;>intro hb|refine zK ?_;intro Jo JU JC AH AJ AG)
  refine Aa [(0,0)] ?_ ?_<;>(first|exact AK|refine zE ?_);exact ⟨x,rfl⟩
structure SR where
 x:Int
 s:AL
 fs:List Fm
 ms:List Gp
 X:List Int
 g:Nat
structure jK (a:SR):Prop where
 made:Jn a.s
 fo:∀f∈a.fs,Az a.s f=0∧f.ks.length≤1000
 f1:1≤a.fs.length
 f3:a.fs.length≤3
 xl:(a.X.length:Int)=AQ a.s
 full:Am a.s ⟨a.X,a.ms⟩=true
set_option maxHeartbeats 8000000 in
theorem V4 (zs:List Int) (hz:zs.length≤9223372036854775807):Hn Tryz.prog 25 [AN false zs] [] (fun a:SR=> .tup [.ref 0 0 0 0,AO a.s, .sl true 3 (a.fs.map (DN false)), .agg [.rsl 1 a.g 0 a.X.length,AX false a.ms]]) (fun a=>[(0, .arr 0 1 [U a.x]),(1, .arr a.g 1 (a.X.map I))]) jK:=by
 have CN:Hn Tryz.prog 44 [AN false zs] [] (fun _:Int=> .ref 0 0 0 0) (fun x=>Af x) (fun _=>True):=EE (PK zs hz) fun v hl=>by
  rintro ⟨x,rfl,rfl⟩;exact ⟨x,trivial,rfl,rfl⟩
 unfold Hn;refine DX ?_;refine zb Tryz.ntmps25 ?_;let tb:=fV;let lv:=ZZ;(repeat' first|refine zQ ?_|refine zN ?_;intro K hC hK|refine zM ?_;try clear hK hC K|refine zC ?_ ?_<;>intro hb|refine zK ?_;intro Jo JU JC AH AJ AG)
 (have fa:= @Af.eq_1;refine zX (tg []) (CN) ?_;clear AH AJ AG Jo JU JC;(try clear fa));intro xr hxr;(repeat' first|refine zQ ?_|refine zN ?_;intro K hC hK|refine zM ?_;try clear hK hC K|refine zC ?_ ?_<;>intro hb|refine zK ?_;intro Jo JU JC AH AJ AG)
 (have fa:= @Af.eq_1;refine zX (tg [80]) (aQ xr) ?_;clear AH AJ AG Jo JU JC;(try clear fa));intro xr hxr;obtain ⟨s,x1⟩:=xr;dsimp only at hxr ⊢;have hM:=hxr;clear hxr;have b5:=Av (x:=x1) (n:=5) (by omega) (by omega);by_cases h5:BC x1 5=0
 ·have b3:=Av (x:=AR x1) (n:=3) (by omega) (by omega);have CL:=Qk (AR (AR x1)) (1+BC (AR x1) 3) (by omega);(have fa:= @Af.eq_1;(repeat' first|refine zJ (tg [80]) (Dt x1 5 (by omega)) ?_|refine zJ (tg [80]) (EC (AR x1) 1 3 (by omega) (by omega) (by omega)) ?_|refine zQ ?_|refine zN ?_;intro K hC hK|refine zM ?_;try clear hK hC K|refine zC ?_ ?_<;>intro hb|refine zK ?_;intro Jo JU JC AH AJ AG)<;>(try clear fa))
  (have fa:= @Af.eq_1;refine zX (tg [80]) (CL) ?_;clear AH AJ AG Jo JU JC;(try clear fa));intro xr hxr;obtain ⟨s2,x2⟩:=xr;dsimp only at hxr ⊢;have hM2:Jn s2:=⟨hxr.2,hxr.1.fl.2⟩;clear hxr;(repeat' first|refine zQ ?_|refine zN ?_;intro K hC hK|refine zM ?_;try clear hK hC K|refine zC ?_ ?_<;>intro hb|refine zK ?_;intro Jo JU JC AH AJ AG)
  (have fa:= @Af.eq_1;refine zX (tg [80]) (Nr x2 s2 hM2.ok) ?_;clear AH AJ AG Jo JU JC;(try clear fa));intro xr hxr;obtain ⟨fs,x3⟩:=xr;obtain ⟨q1,q2,q3⟩:=hxr;dsimp only at q1 q2 q3 ⊢;(have fa:= @Ay;(repeat' first|refine zQ ?_|refine zN ?_;intro K hC hK|refine zM ?_;try clear hK hC K|refine zC ?_ ?_<;>intro hb|refine zK ?_;intro Jo JU JC AH AJ AG)<;>(try clear fa))
  (have fa:= @Af.eq_1;refine r9 (tg [80]) (Qa x3 s2 hM2 fs q1 q2 q3) ?_;clear AH AJ AG Jo JU JC;(try clear fa));intro xr hxr;(repeat' first|refine zQ ?_|refine zN ?_;intro K hC hK|refine zM ?_;try clear hK hC K|refine zC ?_ ?_<;>intro hb|refine zK ?_;intro Jo JU JC AH AJ AG)
  have hxl:=hxr.xl;have hpl:=(A7 (s:=s2) hM2.ok).2.2.1;refine Aa [(80,0),(449,1)] ?_ ?_<;>(first|exact AK|refine zE ?_);refine ⟨_, .rfl',⟨xr.x,s2,fs,xr.ms,xr.X,xr.g⟩,⟨hM2,q1,q2,q3,by dsimp only;omega,hxr.full⟩,?_,rfl⟩;rw [hxl]
 ·(have fa:= @Af.eq_1;(repeat' first|refine zJ (tg [80]) (Dt x1 5 (by omega)) ?_|refine zQ ?_|refine zN ?_;intro K hC hK|refine zM ?_;try clear hK hC K|refine zC ?_ ?_<;>intro hb|refine zK ?_;intro Jo JU JC AH AJ AG)<;>(try clear fa))
  (have fa:= @Af.eq_1;refine zX (tg [80]) (Nr (AR x1) s hM.ok) ?_;clear AH AJ AG Jo JU JC;(try clear fa));intro xr hxr;obtain ⟨fs,x3⟩:=xr;obtain ⟨q1,q2,q3⟩:=hxr;dsimp only at q1 q2 q3 ⊢;(have fa:= @Ay;(repeat' first|refine zQ ?_|refine zN ?_;intro K hC hK|refine zM ?_;try clear hK hC K|refine zC ?_ ?_<;>intro hb|refine zK ?_;intro Jo JU JC AH AJ AG)<;>(try clear fa))
  (have fa:= @Af.eq_1;refine r9 (tg [80]) (Qa x3 s hM fs q1 q2 q3) ?_;clear AH AJ AG Jo JU JC;(try clear fa));intro xr hxr;(repeat' first|refine zQ ?_|refine zN ?_;intro K hC hK|refine zM ?_;try clear hK hC K|refine zC ?_ ?_<;>intro hb|refine zK ?_;intro Jo JU JC AH AJ AG)
  have hxl:=hxr.xl;have hpl:=(A7 (s:=s) hM.ok).2.2.1;refine Aa [(80,0),(369,1)] ?_ ?_<;>(first|exact AK|refine zE ?_);refine ⟨_, .rfl',⟨xr.x,s,fs,xr.ms,xr.X,xr.g⟩,⟨hM,q1,q2,q3,by dsimp only;omega,hxr.full⟩,?_,rfl⟩;rw [hxl]
theorem Tu (zs:List Int) (hz:zs.length≤9223372036854775807):Hn Tryz.prog 25 [AN false zs] [] (fun a:SR=> .tup [.ref 0 0 0 0,AO a.s,Bh false a.fs, .agg [.rsl 1 a.g 0 a.X.length,AX false a.ms]]) (fun a=>[(0, .arr 0 1 [U a.x]),(1, .arr a.g 1 (a.X.map I))]) jK:=by
 have h:=V4 zs hz;unfold Hn at h ⊢;refine DX (EE h fun v hl=> ?_);rintro ⟨a,ok,rfl,rfl⟩;exact ⟨_,An.tup (.cons .rfl' (.cons .rfl' (.cons (An.sl _ _ _) (.cons .rfl' .nil)))),a,ok,rfl,rfl⟩
theorem Lb (a b:List Int) (ha:a.length≤1000000):AM Tryz.prog 35 [AN false a,AN false b] (B (decide (a=b))):=by
 by_cases hl:a.length=b.length
 ·refine zb Tryz.ntmps35 ?_;let tb:=XH;let lv:=Tw;(repeat' first|refine zQ ?_|refine zN ?_;intro K hC hK|refine zM ?_;try clear hK hC K|refine zC ?_ ?_<;>intro hb|refine zK ?_;intro Jo JU JC AH AJ AG)
  refine Ab a.length (fun k σ=>(∀i,(h1:i<a.length)→(h2:i<b.length)→i<k→a[i]=b[i])∧σ=⟨900,[(0,AN false a),(1,AN false b),(5,I k)],[]⟩) [] [] 0 [0,1,5] 900 zf zf ⟨fun i _ _ h=>absurd h (Nat.not_lt_zero i),by exact zV⟩ ?_;rintro k σ' hk ⟨hR,rfl⟩ J hcJ hJ;by_cases hlt:k<a.length
  ·have hlt' :k<b.length:=by omega
   by_cases he:a[k]=b[k]
   ·(have fa:=(And.intro he @bne_self_eq_false.{0});(repeat' first|refine zQ ?_|refine zN ?_;intro K hC hK|refine zM ?_;try clear hK hC K|refine zC ?_ ?_<;>intro hb|refine zK ?_;intro Jo JU JC AH AJ AG)<;>(try clear fa))
    refine hJ _ hlt ⟨fun i h1 h2 h3=> ?_,by exact zV⟩;by_cases hi:i=k
    ·subst hi;exact he
    ·exact hR i h1 h2 (by omega)
   ·have hne:¬a=b:=fun e=>he (by simp [e])
    (repeat' first|refine zQ ?_|refine zN ?_;intro K hC hK|refine zM ?_;try clear hK hC K|refine zC ?_ ?_<;>intro hb|refine zK ?_;intro Jo JU JC AH AJ AG)
    refine Aa [] ?_ ?_<;>(first|exact AK|refine zE ?_);rw [decide_eq_false hne]
  ·obtain rfl:k=a.length:=by omega
   have he:a=b:=Ff hl fun i h1 h2=>hR i h1 h2 h1
   (repeat' first|refine zQ ?_|refine zN ?_;intro K hC hK|refine zM ?_;try clear hK hC K|refine zC ?_ ?_<;>intro hb|refine zK ?_;intro Jo JU JC AH AJ AG)
   refine Aa [] ?_ ?_<;>(first|exact AK|refine zE ?_);rw [decide_eq_true he]
 ·have he:¬a=b:=fun e=>hl (by rw [e])
  rw [decide_eq_false he];refine zb Tryz.ntmps35 ?_;let tb:=XH;let lv:=Tw;(repeat' first|refine zQ ?_|refine zN ?_;intro K hC hK|refine zM ?_;try clear hK hC K|refine zC ?_ ?_<;>intro hb|refine zK ?_;intro Jo JU JC AH AJ AG)
  refine Aa [] ?_ ?_<;>(first|exact AK|refine zE ?_)
theorem RX:AM Tryz.prog 47 [] (Bh true Ma):=by
 refine Ba ?_;refine zb Tryz.ntmps47 ?_;let tb:=eL;let lv:=Z3;(repeat' first|refine zQ ?_|refine zN ?_;intro K hC hK|refine zM ?_;try clear hK hC K|refine zC ?_ ?_<;>intro hb|refine zK ?_;intro Jo JU JC AH AJ AG)
 refine Aa [] ?_ ?_<;>(first|exact AK|refine zE ?_);refine An.slc rfl fun i e e' h h' => ?_
 cases i with
 | zero =>
  simp [Ma] at h h';subst h h';exact .cons .rfl' (.cons (An.nil _ _) (.cons .rfl' .nil))
 | succ i=>simp at h
theorem K3 (a b c d:Int):AM Tryz.prog 68 [I a,I b,I c,I d,Bw] (Cb true ⟨[a,b,c,d],[]⟩):=by
 refine Ba ?_;refine zb Tryz.ntmps68 ?_;let tb:=dX;let lv:=aA;(repeat' first|refine zQ ?_|refine zN ?_;intro K hC hK|refine zM ?_;try clear hK hC K|refine zC ?_ ?_<;>intro hb|refine zK ?_;intro Jo JU JC AH AJ AG)
 refine Aa [] ?_ ?_<;>(first|exact AK|refine zE ?_);exact An.agg (.cons .rfl' (.cons (An.nil _ _) .nil))
instance rgDec:DecidableEq Rg:=fun a b=>if h:a.fm=b.fm∧a.gs=b.gs∧a.at_=b.at_ then isTrue (by cases a;cases b;simp_all) else isFalse (by rintro rfl;simp at h)
theorem VM:GI Eh ⟨[1,1,3,0],[]⟩ (PM Eh ⟨[1,1,3,0],[]⟩) Ma 2=[⟨0,[gp 1 0,gp 4 2],0⟩,⟨0,[gp 1 0,gp 4 2],1⟩]:=by decide +kernel
theorem Ua:DC Eh ⟨[1,1,1,1],[]⟩ Ma (fun k=>Dn Eh ⟨Aq [1,1,1,1] k,[]⟩ (PM Eh ⟨Aq [1,1,1,1] k,[]⟩) Ma)=[3]:=by decide +kernel
theorem WJ:Yx Eh (PM Eh ⟨[1,1,3,0],[]⟩ ⟨1,[],false⟩):=by
 have e:PM Eh ⟨[1,1,3,0],[]⟩ ⟨1,[],false⟩=[[gp 1 0,gp 4 2]]:=by decide +kernel
 rw [e];refine ⟨by simp,fun x hx=> ?_⟩;simp at hx;subst hx;refine ⟨by simp,by simp,fun g hg=> ?_⟩;simp at hg;rcases hg with rfl|rfl<;>decide +kernel
theorem UZ:Ag Eh ⟨[1,1,3,0],[]⟩=0:=by decide +kernel
theorem aO:AM Tryz.prog 28 [AO Eh,Bh false Ma,Cb false ⟨[1,1,3,0],[]⟩,I 2] (N0 false [⟨0,[gp 1 0,gp 4 2],0⟩,⟨0,[gp 1 0,gp 4 2],1⟩]):=by
 have:=JG Eh ⟨[1,1,3,0],[]⟩ (PM Eh ⟨[1,1,3,0],[]⟩) Ma 2 (by simp [Ma]) (by simp [Ma]) (by decide) (by simp) (by simp) fun _ _ f hf=>by
  simp [Ma] at hf;subst hf;exact ⟨WJ,LW _ _ _ rfl UZ⟩
 rw [VM] at this;exact this
theorem cC:AM Tryz.prog 36 [AO Eh,Bh false Ma,Cb false ⟨[1,1,1,1],[]⟩] (AN true [3]):=by
 have:=QM Eh ⟨[1,1,1,1],[]⟩ (by decide) (by simp) (by simp);rw [Ua] at this;exact this
theorem bS:AM Tryz.prog 20 [AO Eh, .agg [I 2,Bw,B false]] (I 3):=by
 have:=IF Eh ⟨2,[],false⟩ (by simp) (by decide);rw [show Az Eh ⟨2,[],false⟩=3 by decide +kernel] at this;exact OE (.cons .rfl' (.cons (An.agg (.cons .rfl' (.cons (An.nil false 1) (.cons .rfl' .nil)))) .nil)) this
set_option maxHeartbeats 4000000 in
theorem Gy:AM Tryz.prog 18 [] (B true):=by
 have CE:AM Tryz.prog 35 [AN false [3], .sl false 1 [I 3]] (B true):=Lb [3] [3] (by simp);have CS1:AM Tryz.prog 68 [I 1,I 1,I 3,I 0,Bw] (Cb true ⟨[1,1,3,0],[]⟩):=K3 1 1 3 0;have CS2:AM Tryz.prog 68 [I 1,I 1,I 1,I 1,Bw] (Cb true ⟨[1,1,1,1],[]⟩):=K3 1 1 1 1;refine zb Tryz.ntmps18 ?_;let tb:=iC;let lv:=ZI;(repeat' first|refine zS Uh ?_|refine zS RX ?_|refine zS CS1 ?_|refine zS CS2 ?_|refine zS aO ?_|refine zS cC ?_|refine zS bS ?_|refine zS CE ?_|refine zQ ?_|refine zN ?_;intro K hC hK|refine zM ?_;try clear hK hC K|refine zC ?_ ?_<;>intro hb|refine zK ?_;intro Jo JU JC AH AJ AG)
 refine Aa [] ?_ ?_<;>(first|exact AK|refine zE ?_)
end Go.Proofs.YthblfhgofopcaaaGreat
