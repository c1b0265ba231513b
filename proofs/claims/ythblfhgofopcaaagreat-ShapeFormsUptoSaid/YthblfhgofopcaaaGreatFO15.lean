/-
  Parts of the proof: KitF.
-/
import Derived.Test.YthblfhgofopcaaaGreatSH13
import Derived.Test.YthblfhgofopcaaaGreatSH14
import Derived.Test.YthblfhgofopcaaaGreatFO14
set_option linter.all false
namespace Go.Proofs.YthblfhgofopcaaaGreat
open Go.RowKit
set_option maxRecDepth 100000
set_option maxHeartbeats 2000000
structure Sz (s:AL) (P:Nat) (ms:List Gp) (n:Int) (X Y:List Int):Prop where
 f:Kx s P ms X Y
 s:X.sum≤n
theorem Kx.sw {s:AL} {P:Nat} {ms:List Gp} {X Y:List Int} (F:Kx s P ms X Y) (hP:P≤34) (hco:s.co≤4):JM X=X.sum:=G6 (m:=4) (fun z hz=>by
  obtain ⟨i,hi,rfl⟩:=List.mem_iff_getElem.1 hz
  have:=F.rg i
  have e:X.getD i 0=X[i]:=by simp [hi]
  rw [e] at this;omega) (by omega) (by have:=F.xl;omega)
theorem Sz.one {s:AL} {P:Nat} {ms:List Gp} {n:Int} {X Y:List Int} (F:Sz s P ms n X Y) {k:Int} (h0:0≤k) (h1:k<(P:Int)) (hf:Y.getD k.toNat 0<s.co) (hs:X.sum<n):Sz s P ms n (Aq X k) (Aq Y k)∧(Aq X k).sum=X.sum+1:=by
 have:=M3 (X:=X) h0 (by have:=F.f.xl;omega);exact ⟨⟨F.f.one h0 h1 hf,by omega⟩,this⟩
set_option maxHeartbeats 20000000 in
theorem XW (x:Int) (s:AL) (hM:Jn s) (h:Hd) (Mo:QU s h.me) (hl:h.bag.length≤1000) (hF:∃P X Y,AQ s=((P:Nat):Int)∧Kx s P h.me X Y):Hn Tryz.prog 132 [.ref 0 0 0 0,AO s,Cb false h,B true] (Af x) (fun _:List Int×Int=> .agg [.rsl 1 0 0 (AQ s).toNat,AX true h.me]) (fun a=>[(0, .arr 0 1 [U a.2]),(1, .arr 0 1 (a.1.map I))]) (fun a=>Am s ⟨a.1,h.me⟩=true∧a.1.length=(AQ s).toNat):=by
 have hv:=hM.ok;obtain ⟨p1,p2,p3,p4⟩:=A7 hv;have V:=AU hv;have hme:=V.me;have hco:=V.co;have CP:=Cm s (by have:=V.su3;omega);rw [p1] at CP;obtain ⟨P,X0,Y0,hP,F0⟩:=hF;have FZ:=F0.zero Mo hv hP;clear F0;have hml:=Mo.ln;rw [hP] at CP p3 p4 ⊢;rw [Int.toNat_natCast];clear V;obtain ⟨bag,ms⟩:=h;dsimp only at Mo hl FZ hml ⊢;unfold Hn Af;refine DX ?_;have hr:=dH P;refine FL 1 Tryz.ntmps132 ?_;let tb:=cG;let lv:=Xe;(have fa:=(And.intro @Af.eq_1 hr);(repeat' first|refine zS CP ?_|refine zQ ?_|refine zN ?_;intro K hC hK|refine zM ?_;try clear hK hC K|refine zC ?_ ?_<;>intro hb|refine zK ?_;intro Jo JU JC AH AJ AG)<;>(try clear fa))
 refine Ab ms.length (fun j σ=>σ=⟨900,[(0, .ref 0 0 0 0),(3,B true),(5, .ref 1 0 0 0),(6, .ref 2 0 0 0),(8, .ref 3 0 0 0),(9, .ref 4 0 0 0),(10, .rsl 7 0 0 P),(11,I j)],[(0, .arr 0 1 [U x]),(1, .arr 0 9 [AO s]),(2, .arr 0 2 [Cb false ⟨bag,ms⟩]),(3, .arr 0 2 [.agg [Bw,Bw]]),(4, .arr 0 2 [.agg [.rsl 5 0 0 P, .rsl 6 1 0 ms.length]]),(5, .arr 0 1 ((List.replicate P 0).map I)),(6, .arr 1 3 (ms.map AZ)),(7, .arr 0 1 ((Bi (List.replicate P 0) (ms.take j)).map I))]⟩) [(0,0),(64,1),(80,2),(96,3),(240,4),(144,5),(160,6),(1168,7)] [(0,0),(1,1),(2,2),(3,3),(4,4),(5,5),(6,6),(7,7)] 0 [0,3,5,6,8,9,10,11] 900 zg zg (by (have fa:=(And.intro @Bi.eq_1 (And.intro @List.take_zero.{0} @List.foldl_nil.{0,0}));exact zV)) ?_;rintro j σ' hj rfl J hcJ hJ;by_cases hlt:j<ms.length
 ·obtain ⟨g,hg⟩:∃g,ms[j]=g:=⟨_,rfl⟩;have hgm:g∈ms:=by rw [←hg];exact List.getElem_mem hlt
  have hge:=Md (Mo.ml g hgm);have CT:=H3 s g;have hte:BT s g.wh g.kd=AI g.wh g.kd:=by unfold BT;rw [if_pos ⟨hv,hge⟩]
  rw [hte] at CT;have hin:=Gc hv hP hge;have hlen:=Bt g.wh g.kd;have ht:=Kj (List.replicate P 0) ms hlt;rw [hg] at ht;have hzl:(Bi (List.replicate P 0) (ms.take j)).length=P:=by rw [DV];simp
  have hzb:∀i,-1000000≤(Bi (List.replicate P 0) (ms.take j)).getD i 0∧(Bi (List.replicate P 0) (ms.take j)).getD i 0≤1000000:=fun i=>by
   rw [FD _ _ (fun g hg=>by simpa using Mo.inb hv hP (List.mem_of_mem_take hg)),Dl];have h1:=P7 (ms.take j) i;have h2:=FG (ms.take j) i;simp at h1;omega
  obtain ⟨Z,hZ⟩:∃Z,Bi (List.replicate P 0) (ms.take j)=Z:=⟨_,rfl⟩;rw [hZ] at hzl hzb ht ⊢;obtain ⟨L,hL⟩:∃L,AI g.wh g.kd=L:=⟨_,rfl⟩;rw [hL] at CT hin hlen ht;have CPu:=GB 0 Z L (by rw [hzl];exact hin) (by omega) hzb (by omega);rw [hzl] at CPu;(have fa:=hg;(repeat' first|refine zS CT ?_|refine QF (tg [7]) CPu ?_|refine zQ ?_|refine zN ?_;intro K hC hK|refine zM ?_;try clear hK hC K|refine zC ?_ ?_<;>intro hb|refine zK ?_;intro Jo JU JC AH AJ AG)<;>(try clear fa))
  exact hJ _ hlt (by (have fa:=ht;exact zV))
 ·obtain rfl:j=ms.length:=by omega
  rw [List.take_length];have b1:=Av (x:=x) (n:=P) (by omega) (by omega);have CB:=BI x P (by omega);(have fa:= @Af.eq_1;(repeat' first|refine zS CP ?_|refine QF (tg [0]) CB ?_|refine zQ ?_|refine zN ?_;intro K hC hK|refine zM ?_;try clear hK hC K|refine zC ?_ ?_<;>intro hb|refine zK ?_;intro Jo JU JC AH AJ AG)<;>(try clear fa))
  obtain ⟨sp,hsp,sp1,sp2⟩:∃sp,1+BC x P=sp∧1≤sp∧sp≤(P:Int):=⟨_,rfl,by omega,by omega⟩;obtain ⟨n,hn⟩:∃n,3*(s.me-(ms.length:Int))+2=n:=⟨_,rfl⟩;have hn1:3*(s.me-(ms.length:Int))+1+1=n:=by omega
  have hn2:2≤n∧n≤14:=by omega
  obtain ⟨x1,hx1⟩:∃x1,AR x=x1:=⟨_,rfl⟩;rw [hsp,hn1,hx1];have key:∀(X Y:List Int) (x' :Int),Sz s P ms n X Y→K ⟨900,[(5, .ref 1 0 0 0),(8, .ref 3 0 0 0),(9, .ref 4 0 0 0),(10, .rsl 7 0 0 P),(12,I n)],[(0, .arr 0 1 [U x']),(1, .arr 0 9 [AO s]),(2, .arr 0 2 [Cb false ⟨bag,ms⟩]),(3, .arr 0 2 [.agg [Bw,Bw]]),(4, .arr 0 2 [.agg [.rsl 5 0 0 P, .rsl 6 1 0 ms.length]]),(5, .arr 0 1 (X.map I)),(6, .arr 1 3 (ms.map AZ)),(7, .arr 0 1 (Y.map I))]⟩:=by
   intro X Y x' F;refine hK _ ?_;clear hC hK K;(repeat' first|refine zQ ?_|refine zN ?_;intro K hC hK|refine zM ?_;try clear hK hC K|refine zC ?_ ?_<;>intro hb|refine zK ?_;intro Jo JU JC AH AJ AG)
   refine At (α:=Nat×List Int×List Int) (fun a=>[(5, .ref 1 0 0 0),(8, .ref 3 0 0 0),(9, .ref 4 0 0 0),(10, .rsl 7 0 0 P),(12,I n),(16,I a.1)])
    (fun a=>[(0, .arr 0 1 [U x']),(1, .arr 0 9 [AO s]),(2, .arr 0 2 [Cb false ⟨bag,ms⟩]),(3, .arr 0 2 [.agg [Bw,Bw]]),(4, .arr 0 2 [.agg [.rsl 5 0 0 P, .rsl 6 1 0 ms.length]]),(5, .arr 0 1 (a.2.1.map I)),(6, .arr 1 3 (ms.map AZ)),(7, .arr 0 1 (a.2.2.map I))])
    (fun a=>P-a.1) (fun a=>a.1≤P∧Sz s P ms n a.2.1 a.2.2∧(a.2.1.sum<n→∀i,i<a.1→s.co≤a.2.2.getD i 0)) [(0,0),(1,1),(2,2),(3,3),(4,4),(5,5),(6,6),(7,7)] [(0,0),(1,1),(2,2),(3,3),(4,4),(5,5),(6,6),(7,7)] 0 [5,8,9,10,12,16] 2900 zg zg (0,X,Y) ⟨by dsimp only;omega,F,fun _ i hi=>absurd hi (Nat.not_lt_zero i)⟩ (by exact C8) ?_
   clear F;rintro ⟨k,X,Y⟩ ⟨k2,F,k3⟩ J2 hcJ2 hJ2;dsimp only at k2 F k3 hJ2 ⊢;have hxl:=F.f.xl;have hyl:=F.f.yl;have hsw:=F.f.sw (by omega) hco.2;have hsn:=F.s;have CTo:=FE X (by omega);rw [hsw] at CTo;have hTX:X.take P=X:=List.take_of_length_le (by omega);have hTX2:P≤X.length:=by omega
   by_cases hgo:k<P∧X.sum<n
   ·obtain ⟨hkP,hs⟩:=hgo;(have fa:=(And.intro hTX hTX2);(repeat' first|refine zS CP ?_|refine zS CTo ?_|refine zQ ?_|refine zN ?_;intro K hC hK|refine zM ?_;try clear hK hC K|refine zC ?_ ?_<;>intro hb|refine zK ?_;intro Jo JU JC AH AJ AG)<;>(try clear fa))
    refine At (α:=List Int×List Int) (fun a=>[(5, .ref 1 0 0 0),(8, .ref 3 0 0 0),(9, .ref 4 0 0 0),(10, .rsl 7 0 0 P),(12,I n),(16,I k)])
     (fun a=>[(0, .arr 0 1 [U x']),(1, .arr 0 9 [AO s]),(2, .arr 0 2 [Cb false ⟨bag,ms⟩]),(3, .arr 0 2 [.agg [Bw,Bw]]),(4, .arr 0 2 [.agg [.rsl 5 0 0 P, .rsl 6 1 0 ms.length]]),(5, .arr 0 1 (a.1.map I)),(6, .arr 1 3 (ms.map AZ)),(7, .arr 0 1 (a.2.map I))])
     (fun a=>(n-a.1.sum).toNat) (fun a=>Sz s P ms n a.1 a.2∧∀i,i<k→s.co≤a.2.getD i 0) [(0,0),(1,1),(2,2),(3,3),(4,4),(5,5),(6,6),(7,7)] [(0,0),(1,1),(2,2),(3,3),(4,4),(5,5),(6,6),(7,7)] 0 [5,8,9,10,12,16] 3900 zg zg (X,Y) ⟨F,k3 hs⟩ (by exact C8) ?_
    clear F k3 hxl hyl hsw hsn CTo hTX hTX2 hs;rintro ⟨X,Y⟩ ⟨F,k3⟩ J3 hcJ3 hJ3;dsimp only at F k3 hJ3 ⊢;have hxl:=F.f.xl;have hyl:=F.f.yl;have hsw:=F.f.sw (by omega) hco.2;have hsn:=F.s;have CTo:=FE X (by omega);rw [hsw] at CTo;have hTX:X.take P=X:=List.take_of_length_le (by omega);have hTX2:P≤X.length:=by omega
    have hkl:k<Y.length:=by omega
    have d5:Y[k]=Y.getD k 0:=by simp [hkl]
    by_cases hc:Y.getD k 0<s.co
    ·by_cases hs:X.sum<n
     ·obtain ⟨F2,F3⟩:=F.one (k:=(k:Int)) (by omega) (by omega) (by simpa using hc) hs;have F4:∀i,i<k→s.co≤(Aq Y k).getD i 0:=fun i hi=>by
       have h1:=Gx (bag:=Y) (z:=(k:Int)) (by omega) (by omega) i;rw [if_neg (by omega)] at h1;have:=k3 i hi;omega
      have hpY:D3 Tryz.prog 111 [.rsl 0 0 0 Y.length, .sl false 1 [I (k:Int)]] [(0, .arr 0 1 (Y.map I))] (.tup []) [(0, .arr 0 1 ((Aq Y (k:Int)).map I))]:=GB 0 Y [(k:Int)] (fun z hz=>by simp at hz;omega) (by simp) (fun i=>by have:=F.f.rg i;omega) (by omega);have hpX:D3 Tryz.prog 111 [.rsl 0 0 0 X.length, .sl false 1 [I (k:Int)]] [(0, .arr 0 1 (X.map I))] (.tup []) [(0, .arr 0 1 ((Aq X (k:Int)).map I))]:=GB 0 X [(k:Int)] (fun z hz=>by simp at hz;omega) (by simp) (fun i=>by have:=F.f.rg i;omega) (by omega);rw [hyl] at hpY;rw [hxl] at hpX;(have fa:=(And.intro hTX (And.intro hTX2 d5));(repeat' first|refine zS CTo ?_|refine zB (tg [7]) hpY ?_|refine zB (tg [5]) hpX ?_|refine zQ ?_|refine zN ?_;intro K hC hK|refine zM ?_;try clear hK hC K|refine zC ?_ ?_<;>intro hb|refine zK ?_;intro Jo JU JC AH AJ AG)<;>(try clear fa))
      refine hJ3 _ (Aq X k,Aq Y k) (by dsimp only;omega) ⟨F2,F4⟩ (by exact C8)
     ·(have fa:=(And.intro hTX (And.intro hTX2 d5));(repeat' first|refine zS CTo ?_|refine zQ ?_|refine zN ?_;intro K hC hK|refine zM ?_;try clear hK hC K|refine zC ?_ ?_<;>intro hb|refine zK ?_;intro Jo JU JC AH AJ AG)<;>(try clear fa))
      refine hJ2 _ (k+1,X,Y) (by dsimp only;omega) ⟨by dsimp only;omega,F,fun h=>absurd h hs⟩ (by exact C8)
    ·(have fa:=(And.intro hTX (And.intro hTX2 d5));(repeat' first|refine zS CTo ?_|refine zQ ?_|refine zN ?_;intro K hC hK|refine zM ?_;try clear hK hC K|refine zC ?_ ?_<;>intro hb|refine zK ?_;intro Jo JU JC AH AJ AG)<;>(try clear fa))
     refine hJ2 _ (k+1,X,Y) (by dsimp only;omega) ⟨by dsimp only;omega,F,fun _ i hi=> ?_⟩ (by exact C8);dsimp only at hi ⊢;by_cases e:i=k
     ·subst e;omega
     ·exact k3 i (by omega)
   ·have hdone:X.sum=n:=by
     by_cases hs:X.sum<n
     ·have hkP:k=P:=by omega
      subst hkP;have:=F.f.room Mo hM hP (k3 hs);omega
     ·omega
    have hfull:=F.f.full Mo hv hP (by omega);(have fa:=(And.intro hTX hTX2);(repeat' first|refine zS CP ?_|refine zS CTo ?_|refine zQ ?_|refine zN ?_;intro K hC hK|refine zM ?_;try clear hK hC K|refine zC ?_ ?_<;>intro hb|refine zK ?_;intro Jo JU JC AH AJ AG)<;>(try clear fa))
    all_goals first
     | (exfalso;omega)
     | skip
    all_goals
     refine Aa [(0,0),(5,1)] ?_ ?_<;>(first|exact AK|refine zE ?_);exact ⟨_,An.agg (by (repeat first|exact EO.nil|refine GQ ?_)),(X,x'),⟨hfull,hxl⟩,rfl,rfl⟩
  clear hK;have hC0:=hC;refine At (α:=Nat×List Int×List Int×Int) (fun a=>[(0, .ref 0 0 0 0),(5, .ref 1 0 0 0),(8, .ref 3 0 0 0),(9, .ref 4 0 0 0),(10, .rsl 7 0 0 P),(12,I n),(13,I sp),(14,I a.1)])
   (fun a=>[(0, .arr 0 1 [U a.2.2.2]),(1, .arr 0 9 [AO s]),(2, .arr 0 2 [Cb false ⟨bag,ms⟩]),(3, .arr 0 2 [.agg [Bw,Bw]]),(4, .arr 0 2 [.agg [.rsl 5 0 0 P, .rsl 6 1 0 ms.length]]),(5, .arr 0 1 (a.2.1.map I)),(6, .arr 1 3 (ms.map AZ)),(7, .arr 0 1 (a.2.2.1.map I))])
   (fun a=>400-a.1) (fun a=>a.1≤400∧Sz s P ms n a.2.1 a.2.2.1) [(0,0),(1,1),(2,2),(3,3),(4,4),(5,5),(6,6),(7,7)] [(0,0),(1,1),(2,2),(3,3),(4,4),(5,5),(6,6),(7,7)] 0 [0,5,8,9,10,12,13,14] 1900 zg zg (0,List.replicate P 0,Bi (List.replicate P 0) ms,x1) ⟨by dsimp only;omega,FZ,by simp;omega⟩ (by exact C8) ?_
  rintro ⟨t,X,Y,x'⟩ ⟨k1,F⟩ J2 hcJ2 hJ2;dsimp only at k1 F hJ2 ⊢;have hxl:=F.f.xl;have hyl:=F.f.yl;have hsw:=F.f.sw (by omega) hco.2;have hsn:=F.s;have CTo:=FE X (by omega);rw [hsw] at CTo;have hTX:X.take P=X:=List.take_of_length_le (by omega);have hTX2:P≤X.length:=by omega
  have bb:=Av (x:=x') (n:=P) (by omega) (by omega);have CB1:=BI x' P (by omega);have bs:=Av (x:=AR x') (n:=sp) (by omega) (by omega);have CB2:=BI (AR x') sp (by omega);by_cases hgo:t<400∧X.sum<n
  ·obtain ⟨ht,hs⟩:=hgo;by_cases h60:t<60
   ·obtain ⟨k,hk⟩:∃k,BC (AR x') sp=k:=⟨_,rfl⟩;rw [hk] at bs;obtain ⟨k0,hk0⟩:∃k0,BC x' P=k0:=⟨_,rfl⟩;have hkP:k<(P:Int):=by omega
    have hkl:k.toNat<Y.length:=by omega
    have d5:Y[k.toNat]=Y.getD k.toNat 0:=by simp [hkl]
    by_cases hc:Y.getD k.toNat 0<s.co
    ·obtain ⟨F2,_⟩:=F.one bs.1 hkP hc hs;have hpY:D3 Tryz.prog 111 [.rsl 0 0 0 Y.length, .sl false 1 [I k]] [(0, .arr 0 1 (Y.map I))] (.tup []) [(0, .arr 0 1 ((Aq Y k).map I))]:=GB 0 Y [k] (fun z hz=>by simp at hz;omega) (by simp) (fun i=>by have:=F.f.rg i;omega) (by omega);have hpX:D3 Tryz.prog 111 [.rsl 0 0 0 X.length, .sl false 1 [I k]] [(0, .arr 0 1 (X.map I))] (.tup []) [(0, .arr 0 1 ((Aq X k).map I))]:=GB 0 X [k] (fun z hz=>by simp at hz;omega) (by simp) (fun i=>by have:=F.f.rg i;omega) (by omega);rw [hyl] at hpY;rw [hxl] at hpX;(have fa:=(And.intro @Af.eq_1 (And.intro hk (And.intro hk0 (And.intro hTX (And.intro hTX2 d5)))));(repeat' first|refine zS CTo ?_|refine zS CP ?_|refine QF (tg [0]) CB1 ?_|refine QF (tg [0]) CB2 ?_|refine zB (tg [7]) hpY ?_|refine zB (tg [5]) hpX ?_|refine zQ ?_|refine zN ?_;intro K hC hK|refine zM ?_;try clear hK hC K|refine zC ?_ ?_<;>intro hb|refine zK ?_;intro Jo JU JC AH AJ AG)<;>(try clear fa))
     refine hJ2 _ (t+1,Aq X k,Aq Y k,AR (AR x')) (by dsimp only;omega) ⟨by dsimp only;omega,F2⟩ (by exact C8)
    ·(have fa:=(And.intro @Af.eq_1 (And.intro hk (And.intro hk0 (And.intro hTX (And.intro hTX2 d5)))));(repeat' first|refine zS CTo ?_|refine zS CP ?_|refine QF (tg [0]) CB1 ?_|refine QF (tg [0]) CB2 ?_|refine zQ ?_|refine zN ?_;intro K hC hK|refine zM ?_;try clear hK hC K|refine zC ?_ ?_<;>intro hb|refine zK ?_;intro Jo JU JC AH AJ AG)<;>(try clear fa))
     refine hJ2 _ (t+1,X,Y,AR (AR x')) (by dsimp only;omega) ⟨by dsimp only;omega,F⟩ (by exact C8)
   ·obtain ⟨k,hk⟩:∃k,BC x' P=k:=⟨_,rfl⟩;rw [hk] at bb;have hkl:k.toNat<Y.length:=by omega
    have d5:Y[k.toNat]=Y.getD k.toNat 0:=by simp [hkl]
    by_cases hc:Y.getD k.toNat 0<s.co
    ·obtain ⟨F2,_⟩:=F.one bb.1 bb.2 hc hs;have hpY:D3 Tryz.prog 111 [.rsl 0 0 0 Y.length, .sl false 1 [I k]] [(0, .arr 0 1 (Y.map I))] (.tup []) [(0, .arr 0 1 ((Aq Y k).map I))]:=GB 0 Y [k] (fun z hz=>by simp at hz;omega) (by simp) (fun i=>by have:=F.f.rg i;omega) (by omega);have hpX:D3 Tryz.prog 111 [.rsl 0 0 0 X.length, .sl false 1 [I k]] [(0, .arr 0 1 (X.map I))] (.tup []) [(0, .arr 0 1 ((Aq X k).map I))]:=GB 0 X [k] (fun z hz=>by simp at hz;omega) (by simp) (fun i=>by have:=F.f.rg i;omega) (by omega);rw [hyl] at hpY;rw [hxl] at hpX;(have fa:=(And.intro @Af.eq_1 (And.intro hk (And.intro hTX (And.intro hTX2 d5))));(repeat' first|refine zS CTo ?_|refine zS CP ?_|refine QF (tg [0]) CB1 ?_|refine zB (tg [7]) hpY ?_|refine zB (tg [5]) hpX ?_|refine zQ ?_|refine zN ?_;intro K hC hK|refine zM ?_;try clear hK hC K|refine zC ?_ ?_<;>intro hb|refine zK ?_;intro Jo JU JC AH AJ AG)<;>(try clear fa))
     refine hJ2 _ (t+1,Aq X k,Aq Y k,AR x') (by dsimp only;omega) ⟨by dsimp only;omega,F2⟩ (by exact C8)
    ·(have fa:=(And.intro @Af.eq_1 (And.intro hk (And.intro hTX (And.intro hTX2 d5))));(repeat' first|refine zS CTo ?_|refine zS CP ?_|refine QF (tg [0]) CB1 ?_|refine zQ ?_|refine zN ?_;intro K hC hK|refine zM ?_;try clear hK hC K|refine zC ?_ ?_<;>intro hb|refine zK ?_;intro Jo JU JC AH AJ AG)<;>(try clear fa))
     refine hJ2 _ (t+1,X,Y,AR x') (by dsimp only;omega) ⟨by dsimp only;omega,F⟩ (by exact C8)
  ·(have fa:=(And.intro hTX hTX2);(repeat' first|refine zS CTo ?_|refine zQ ?_|refine zN ?_;intro K hC hK|refine zM ?_;try clear hK hC K|refine zC ?_ ?_<;>intro hb|refine zK ?_;intro Jo JU JC AH AJ AG)<;>(try clear fa))
   all_goals first
    | (exfalso;omega)
    | exact hC0.go [(0,0),(1,1),(2,2),(3,3),(4,4),(5,5),(6,6),(7,7)] 0 [5,8,9,10,12] 900 _ _ (by exact ⟨by decide,by decide,by decide⟩) (key X Y x' F) (by exact C8)
end Go.Proofs.YthblfhgofopcaaaGreat
