/-
  Parts of the proof: WTurned.
-/
import Derived.Test.YthblfhgofopcaaaGreatTU23
import Derived.Test.YthblfhgofopcaaaGreatSH13
import Derived.Test.YthblfhgofopcaaaGreatSH14
set_option linter.all false
namespace Go.Proofs.YthblfhgofopcaaaGreat
open Go.RowKit
set_option maxRecDepth 100000
set_option maxHeartbeats 2000000
set_option maxHeartbeats 16000000 in
theorem xV (nums:List Int) (a0 b0:Int) (mi:Bool) (hn:nums.length≤9223372036854775807):AM Tryz.prog 16 [AN false nums,I a0,I b0,B mi] (B true):=by
 refine zb Tryz.ntmps16 ?_;let tb:=ABB;let lv:=AAj;(repeat' first|refine zQ ?_|refine zN ?_;intro K hC hK|refine zM ?_;try clear hK hC K|refine zC ?_ ?_<;>intro hb|refine zK ?_;intro Jo JU JC AH AJ AG)
 (refine zX (tg []) (Tu nums hn) ?_;clear AH AJ AG Jo JU JC);intro xr hxr;have V:=hxr.made.ok;have hxl:=hxr.xl;obtain ⟨pk1,pk2,pk3,hpl⟩:=A7 V;have hfull:=hxr.full;have hfo:=hxr.fo;have hf1:=hxr.f1;have hf3:=hxr.f3;obtain ⟨y,t,fs,ms,X,g0⟩:=xr;dsimp only at V hxl pk1 pk2 pk3 hpl hfull hfo hf1 hf3 ⊢;have hhe:Ag t ⟨X,ms⟩=0:=by unfold Am at hfull;simp at hfull;exact hfull.1
 have ho:G5 t ⟨X,ms⟩:=DP hhe;have hrg:=ho.rg;have hmm:=ho.mm;have hlo:=ho.lo;have hme:=(AU V).me;have hco:=(AU V).co;have hsu3:=(AU V).su3;have hnk:(X.length:Int)=AY t:=by omega
 dsimp only at hrg hmm hlo;have hTX:List.take X.length X=X:=List.take_length;have CA:=xN a0 3 (by omega) (by omega);have CB:=xN b0 3 (by omega) (by omega);obtain ⟨a,ha,ha0⟩:∃a,a0 % 3=a∧(0≤a∧a<3):=⟨_,rfl,by omega⟩;obtain ⟨b,hb,hb0⟩:∃b,b0 % 3=b∧(0≤b∧b<3):=⟨_,rfl,by omega⟩;rw [ha] at CA;rw [hb] at CB;have T:=AAO V hnk mi a b;clear hxr ho;have hpl2:∀k:Nat,k<X.length→0≤C4 t mi a b k∧C4 t mi a b k<X.length:=fun k hk=>T.rg k (by omega) (by omega)
 have hTl:=wR (C4 t mi a b) X.length;(have fa:=hTX;(repeat' first|refine zS CA ?_|refine zS CB ?_|refine zQ ?_|refine zN ?_;intro K hC hK|refine zM ?_;try clear hK hC K|refine zC ?_ ?_<;>intro hb|refine zK ?_;intro Jo JU JC AH AJ AG)<;>(try clear fa))
 refine A8 (BY 13 500 0 1 (by rfl) (by rfl)) (α:=Nat×Nat) (fun c=>[(1,I a),(2,I b),(3,B mi),(9, .ref 0 0 0 0),(10, .ref 1 0 0 0),(11,Bh false fs),(12, .ref 2 0 0 0),(13, .rsl 3 c.2 0 c.1),(14,I c.1)]) (fun c=>[(0, .arr 0 1 [U y]),(1, .arr 0 9 [AO t]),(2, .arr 0 2 [.agg [AN true X,AX false ms]]),(3, .arr c.2 1 (((x6 (C4 t mi a b) X.length).take c.1).map I))])
  (fun c=>X.length-c.1) (fun c=>c.1≤X.length) [(32,0),(128,1),(144,2),(500,3)] [(0,0),(1,1),(2,2),(3,3)] 1 [1,2,3,9,10,11,12,13,14] 900 zg zg (0,0) (by simp) (by (have fa:=(And.intro @Dg.eq_1 (And.intro (And.intro @Ci.eq_1 @Ci.eq_2) (And.intro @List.take_zero.{0} (And.intro @List.map_nil.{0,0} hTX))));exact C8)) ?_
 rintro ⟨i,g⟩ k1 J hcJ hJ;dsimp only at k1 hJ ⊢;by_cases hi:i<X.length
 ·have CS:=AAA t i a b;have CM:=yA t i;have hs:=AAP (C4 t mi a b) hi;have hq:=hpl2 i hi;obtain ⟨O,hO⟩:∃O,(x6 (C4 t mi a b) X.length).take i=O:=⟨_,rfl⟩;have hOl:O.length=i:=by rw [←hO,List.length_take];omega
  rw [hO] at hs ⊢;have hT:List.take i O=O:=List.take_of_length_le (by omega);have hT2:i≤O.length:=by omega
  clear hO;cases mi with
  | true =>
   have e:C4 t true a b i=A3 t i:=by unfold C4;rw [if_pos rfl]
   rw [e] at hs hq;obtain ⟨q,hqq⟩:∃q,A3 t i=q:=⟨_,rfl⟩;rw [hqq] at hs hq CM;(have fa:=(And.intro hTX (And.intro hT hT2));(repeat' first|refine zS CS ?_|refine zS CM ?_|refine zQ ?_|refine zN ?_;intro K hC hK|refine zM ?_;try clear hK hC K|refine zC ?_ ?_<;>intro hb|refine zK ?_;intro Jo JU JC AH AJ AG)<;>(try clear fa))
   exact hJ _ (i+1,_) (by dsimp only;omega) (by dsimp only;omega) (by (have fa:=(And.intro hs hT);exact C8))
  | false =>
   have e:C4 t false a b i=A1 t i a b:=by unfold C4;rw [if_neg (by decide)]
   rw [e] at hs hq;obtain ⟨q,hqq⟩:∃q,A1 t i a b=q:=⟨_,rfl⟩;rw [hqq] at hs hq CS;(have fa:=(And.intro hTX (And.intro hT hT2));(repeat' first|refine zS CS ?_|refine zQ ?_|refine zN ?_;intro K hC hK|refine zM ?_;try clear hK hC K|refine zC ?_ ?_<;>intro hb|refine zK ?_;intro Jo JU JC AH AJ AG)<;>(try clear fa))
   exact hJ _ (i+1,_) (by dsimp only;omega) (by dsimp only;omega) (by (have fa:=(And.intro hs hT);exact C8))
 ·obtain rfl:i=X.length:=by omega
  obtain ⟨tl,htl⟩:∃tl,x6 (C4 t mi a b) X.length=tl:=⟨_,rfl⟩;rw [htl] at hTl ⊢;have hTT:List.take X.length tl=tl:=List.take_of_length_le (by omega);have hTT2:X.length≤tl.length:=by omega
  rw [hTT];clear hJ;have hkr:∀f∈fs,D8 X.length f.ks:=fun f hf=>xZ hnk (Nf (hfo f hf).1)
  have CE:=AAD t (by omega);have hFlen:∀i,((fs.take i).filter (P3 t mi)).length≤3:=fun i=>by
   have h1:=List.length_filter_le (P3 t mi) (fs.take i);rw [List.length_take] at h1;omega
  (repeat' first|refine zQ ?_|refine zN ?_;intro K hC hK|refine zM ?_;try clear hK hC K|refine zC ?_ ?_<;>intro hb|refine zK ?_;intro Jo JU JC AH AJ AG)
  refine A8 ((BY 16 500 0 3 (by rfl) (by rfl)).trans (BY 17 516 0 3 (by rfl) (by rfl))) (α:=Nat×Nat×Nat) (fun c=>[(3,B mi),(9, .ref 0 0 0 0),(10, .ref 1 0 0 0),(11,Bh false fs),(12, .ref 2 0 0 0),(13,AN true tl),(16, .rsl 3 c.2.1 0 ((fs.take c.1).filter (P3 t mi)).length),(17, .rsl 4 c.2.2 0 ((fs.take c.1).filter (P3 t mi)).length),(18,I c.1)])
   (fun c=>[(0, .arr 0 1 [U y]),(1, .arr 0 9 [AO t]),(2, .arr 0 2 [.agg [AN true X,AX false ms]]),(3, .arr c.2.1 3 (((fs.take c.1).filter (P3 t mi)).map (DN false))),(4, .arr c.2.2 3 ((((fs.take c.1).filter (P3 t mi)).map (yK (C4 t mi a b))).map (DN true)))])
   (fun c=>fs.length-c.1) (fun c=>c.1≤fs.length) [(0,0),(1,1),(2,2),(500,3),(516,4)] [(0,0),(1,1),(2,2),(3,3),(4,4)] 1 [3,9,10,11,12,13,16,17,18] 1900 zg zg (0,0,0) (by simp) (by (have fa:=(And.intro @Dg.eq_1 (And.intro (And.intro @Ci.eq_1 @Ci.eq_2) (And.intro @List.take_zero.{0} (And.intro @List.filter_nil.{0} (And.intro @List.map_nil.{0,0} (And.intro @List.length_nil.{0} (And.intro hTT hTT2)))))));exact C8)) ?_
  rintro ⟨i,g2,g3⟩ k2 J hcJ hJ;dsimp only at k2 hJ ⊢;by_cases hi:i<fs.length
  ·obtain ⟨f,hf⟩:∃f,fs[i]=f:=⟨_,rfl⟩;have hfm:f∈fs:=by rw [←hf];exact List.getElem_mem hi
   have hst:fs.take (i+1)=fs.take i++[f]:=by rw [List.take_succ_eq_append_getElem hi,hf]
   have hFl:=hFlen i;have hin:=hkr f hfm;have hkl:=(hfo f hfm).2;have CM:=wW f.ks tl (by omega) (by omega) (fun z hz=>by rw [hTl];exact hin z hz);rw [←htl,zR hin,htl] at CM;obtain ⟨F,hF⟩:∃F,(fs.take i).filter (P3 t mi)=F:=⟨_,rfl⟩;rw [hF] at hFl ⊢;have hk:(fs.take (i+1)).filter (P3 t mi)=F++if P3 t mi f=true then [f] else []:=by
    rw [hst,List.filter_append,hF];congr 1;rw [List.filter_cons];split<;>rfl
   clear hst hF;obtain ⟨wh,ks,ag⟩:=f;dsimp only at hkl hin CM;obtain ⟨M,hM⟩:∃M,xQ (ks.map (C4 t mi a b))=M:=⟨_,rfl⟩;rw [hM] at CM;obtain ⟨G,hG⟩:∃G,F.map (yK (C4 t mi a b))=G:=⟨_,rfl⟩;rw [hG];have e1:yK (C4 t mi a b) ⟨wh,ks,ag⟩=⟨wh,M,ag⟩:=by unfold yK;dsimp only;rw [hM]
   have hE2:((F++[(⟨wh,ks,ag⟩:Fm)]).map (yK (C4 t mi a b))).map (DN true)=G.map (DN true)++[.agg [I wh,AN true M,B ag]]:=by simp [e1,DN,←hG]
   have hln:(F++[(⟨wh,ks,ag⟩:Fm)]).length=F.length+1:=by simp
   have hGl:List.take F.length G=G:=List.take_of_length_le (by rw [←hG,List.length_map];exact Nat.le_refl _);have hGl2:F.length≤G.length:=by rw [←hG,List.length_map];exact Nat.le_refl _
   have hT5:List.take F.length F=F:=List.take_length;clear hM e1;by_cases hkp:P3 t mi ⟨wh,ks,ag⟩=true
   ·rw [if_pos hkp] at hk;unfold P3 at hkp;cases mi with
    | false =>
     clear hkp;(have fa:=(And.intro hf (And.intro hT5 (And.intro hGl hGl2)));(repeat' first|refine zS CE ?_|refine zS CM ?_|refine zQ ?_|refine zN ?_;intro K hC hK|refine zM ?_;try clear hK hC K|refine zC ?_ ?_<;>intro hb|refine zK ?_;intro Jo JU JC AH AJ AG)<;>(try clear fa))
     all_goals exact hJ _ (i+1,_,_) (by dsimp only;omega) (by dsimp only;omega) (by (have fa:=(And.intro hk (And.intro hE2 (And.intro hln (And.intro hT5 hGl))));exact C8))
    | true =>
     by_cases h4:wh=4
     ·subst h4;have hev:wY t=true:=by simpa using hkp
      rw [hev] at CE;clear hkp;(have fa:=(And.intro hf (And.intro hT5 (And.intro hGl hGl2)));(repeat' first|refine zS CE ?_|refine zS CM ?_|refine zQ ?_|refine zN ?_;intro K hC hK|refine zM ?_;try clear hK hC K|refine zC ?_ ?_<;>intro hb|refine zK ?_;intro Jo JU JC AH AJ AG)<;>(try clear fa))
      all_goals exact hJ _ (i+1,_,_) (by dsimp only;omega) (by dsimp only;omega) (by (have fa:=(And.intro hk (And.intro hE2 (And.intro hln (And.intro hT5 hGl))));exact C8))
     ·clear hkp;(have fa:=(And.intro hf (And.intro hT5 (And.intro hGl hGl2)));(repeat' first|refine zS CE ?_|refine zS CM ?_|refine zQ ?_|refine zN ?_;intro K hC hK|refine zM ?_;try clear hK hC K|refine zC ?_ ?_<;>intro hb|refine zK ?_;intro Jo JU JC AH AJ AG)<;>(try clear fa))
      all_goals exact hJ _ (i+1,_,_) (by dsimp only;omega) (by dsimp only;omega) (by (have fa:=(And.intro hk (And.intro hE2 (And.intro hln (And.intro hT5 hGl))));exact C8))
   ·rw [if_neg hkp,List.append_nil] at hk;unfold P3 at hkp;cases mi with
    | false=>simp at hkp
    | true =>
     have h4:wh=4∧wY t=false:=by simpa using hkp
     obtain ⟨rfl,hev⟩:=h4;rw [hev] at CE;clear hkp;(have fa:=(And.intro hf (And.intro hT5 (And.intro hGl hGl2)));(repeat' first|refine zS CE ?_|refine zS CM ?_|refine zQ ?_|refine zN ?_;intro K hC hK|refine zM ?_;try clear hK hC K|refine zC ?_ ?_<;>intro hb|refine zK ?_;intro Jo JU JC AH AJ AG)<;>(try clear fa))
     all_goals exact hJ _ (i+1,_,_) (by dsimp only;omega) (by dsimp only;omega) (by (have fa:=(And.intro hk hG);exact C8))
  ·obtain rfl:i=fs.length:=by omega
   simp only [List.take_length];clear hJ hFlen;obtain ⟨F,hF⟩:∃F,fs.filter (P3 t mi)=F:=⟨_,rfl⟩;have hFm:∀f∈F,Az t f=0∧P3 t mi f=true:=fun f hf=>by
    rw [←hF,List.mem_filter] at hf;exact ⟨(hfo f hf.1).1,hf.2⟩
   have hFk:∀f∈F,f.ks.length≤1000:=fun f hf=>by
    rw [←hF,List.mem_filter] at hf;exact (hfo f hf.1).2
   have hF3:F.length≤3:=by
    have:=List.length_filter_le (P3 t mi) fs;rw [hF] at this;omega
   rw [hF];clear hF;obtain ⟨G,hG⟩:∃G,F.map (yK (C4 t mi a b))=G:=⟨_,rfl⟩;rw [hG];have hGn:G.length=F.length:=by rw [←hG,List.length_map]
   by_cases h0:F.length=0
   ·(repeat' first|refine zS Gy ?_|refine zQ ?_|refine zN ?_;intro K hC hK|refine zM ?_;try clear hK hC K|refine zC ?_ ?_<;>intro hb|refine zK ?_;intro Jo JU JC AH AJ AG)
    refine Aa [] ?_ ?_<;>(first|exact AK|refine zE ?_)
   ·have hGk:∀f∈G,f.ks.length≤1000000:=fun f hf=>by
     rw [←hG] at hf;obtain ⟨x,hx,rfl⟩:=List.mem_map.1 hf;rw [AAg];have:=hFk x hx;omega
    have hFk2:∀f∈F,f.ks.length≤1000000:=fun f hf=>by have:=hFk f hf;omega
    have hmF:A6 t F=0:=xF V (by omega) (by omega) fun f hf=>(hFm f hf).1
    have hmG:A6 t G=0:=by rw [←hG];exact ABK V hnk (fun f hf=>(hFm f hf).1) (by omega) (by omega)
    have qFW:FsW t X.length (C4 t mi a b) F G:=by rw [←hG];exact ABO V hnk ha0 hb0 hFm
    have qTB:=fun (Z:List Int) (hZ:Z.length=X.length)=>AA4 T (X:=Z) hZ
    rw [htl] at qTB;have hml:=(DP hhe).ml;unfold By at hml;split at hml
    ·cases hml
    have hgi:∀g∈ms,wU X.length (AT t) g:=fun g hg=>(x4 T hnk (K7 hml g hg)).1
    have hgr:∀g∈ms,0≤g.kd∧g.kd<(X.length:Int)∧(g.wh=1→g.kd+2<(X.length:Int)):=fun g hg=>by
     obtain ⟨q0,q1,q2⟩:=hgi g hg;exact ⟨q0,q1,fun hw=>by have:=T.rok _ (q2 hw);omega⟩
    have htr:∀z∈tl,0≤z∧z<(X.length:Int):=fun z hz=>by
     rw [←htl] at hz;unfold x6 at hz;obtain ⟨k,hk,rfl⟩:=List.mem_map.1 hz;exact hpl2 k (List.mem_range.1 hk)
    have hMe:=AA5 (p:=C4 t mi a b) T.rok hgi;rw [htl] at hMe;have CT:=fun (Z:List Int) (hZ:Z.length=X.length)=>yG Z tl ms (by omega) (by omega) (by omega) (fun z hz=>by rw [hZ];exact htr z hz) (fun g hg=>by rw [hZ];exact hgr g hg)
    rw [hMe] at CT;have hRn:=fun (k:Nat) (hk:k<X.length)=>AAV T hmF hmG qFW hhe (qTB X rfl) hk
    have hHn:=(o6 T hhe (qTB X rfl)).1;have hWn:=fun (Z:List Int) (hZ:Z.length=X.length) (he:Ag t ⟨Z,ms⟩=0)=>AAK T hmF hmG qFW he (qTB Z hZ)
    rw [htl] at hWn;dsimp only at hRn hHn hWn;obtain ⟨ms',hms⟩:∃ms',ms.map (J5 (C4 t mi a b))=ms' :=⟨_,rfl⟩;have hml' :ms'.length=ms.length:=by rw [←hms,List.length_map]
    rw [hms] at CT hRn hHn;simp only [hms] at hWn;have CTX:=CT X rfl;have hbl:=l4 X tl X.length;obtain ⟨b',hb'⟩:∃b',x5 X tl X.length=b' :=⟨_,rfl⟩;rw [hb'] at CTX hbl hHn hRn;have CH:=Dk t ⟨b',ms'⟩ (by dsimp only;omega) (by dsimp only;omega);rw [hHn] at CH;have CF:=Lr t G hGk (by omega) (by omega);rw [hmG] at CF;have hT5:List.take F.length F=F:=List.take_length;have hGl:List.take F.length G=G:=List.take_of_length_le (by omega);have hGl2:F.length≤G.length:=by omega
    have qS1:FM t F ⟨X,ms⟩:=⟨hFk2,by omega,by omega,by dsimp only;omega,by dsimp only;omega⟩;have S2:FM t G ⟨b',ms'⟩:=⟨hGk,by omega,by omega,by dsimp only;omega,by dsimp only;omega⟩;have CWo:=Oh y ⟨X,ms⟩ (by dsimp only;omega) (by dsimp only;omega) (fun z hz=>by have:=hrg z hz;omega) (by dsimp only;omega);clear hms hb' hMe hml hG hFm hFk qFW hmF hmG hHn hgr hgi htr hhe;(have fa:=(And.intro hT5 (And.intro hGl (And.intro hGl2 @bne_self_eq_false.{0})));(repeat' first|refine zS CTX ?_|refine zS CH ?_|refine zS CF ?_|refine zQ ?_|refine zN ?_;intro K hC hK|refine zM ?_;try clear hK hC K|refine zC ?_ ?_<;>intro hb|refine zK ?_;intro Jo JU JC AH AJ AG)<;>(try clear fa))
    refine Ab X.length (fun k σ=>σ=⟨2900,[(9, .ref 0 0 0 0),(10, .ref 1 0 0 0),(12, .ref 2 0 0 0),(13,AN true tl),(16, .sl true 3 (F.map (DN false))),(17,Bh true G),(19, .ref 3 0 0 0),(20,I k)],[(0, .arr 0 1 [U y]),(1, .arr 0 9 [AO t]),(2, .arr 0 2 [.agg [AN true X,AX false ms]]),(3, .arr 0 2 [Cb true ⟨b',ms'⟩])]⟩) [(0,0),(1,1),(2,2),(2060,3)] [(0,0),(1,1),(2,2),(3,3)] 1 [9,10,12,13,16,17,19,20] 2900 zf zf (by (have fa:=(And.intro hT5 (And.intro hGl hGl2));exact zV)) ?_;rintro k σ' hk rfl J3 hcJ3 hJ3;by_cases hlt:k<X.length
    ·have P1:=wL k qS1;have P2:=wL (C4 t mi a b k) S2;have hrl:=hRn k hlt;obtain ⟨q,hq⟩:∃q,tl[k]'(by omega)=q:=⟨_,rfl⟩;have hq2:C4 t mi a b k=q:=by
      rw [←hq];subst htl;exact (xA _ hlt).symm
     rw [hq2] at P2 hrl;obtain ⟨qR1,hR1⟩:∃qR1,Mz t F ⟨X,ms⟩ k=qR1:=⟨_,rfl⟩;obtain ⟨R2,hR2⟩:∃R2,Mz t G ⟨b',ms'⟩ q=R2:=⟨_,rfl⟩;rw [hR1] at P1 hrl;rw [hR2] at P2 hrl;clear hR1 hR2 hq2 hRn CTX CH CF;(have fa:=(And.intro hTX (And.intro hq (And.intro hrl (And.intro @bne_self_eq_false.{0} @Ay))));(repeat' first|refine zS P1 ?_|refine zS P2 ?_|refine zQ ?_|refine zN ?_;intro K hC hK|refine zM ?_;try clear hK hC K|refine zC ?_ ?_<;>intro hb|refine zK ?_;intro Jo JU JC AH AJ AG)<;>(try clear fa))
     exact hJ3 _ hlt (by exact zV)
    ·obtain rfl:k=X.length:=by omega
     clear hRn CTX CH CF S2;(repeat' first|refine zQ ?_|refine zN ?_;intro K hC hK|refine zM ?_;try clear hK hC K|refine zC ?_ ?_<;>intro hb|refine zK ?_;intro Jo JU JC AH AJ AG)
     (have fa:=(And.intro @Af.eq_1 hTX);refine jY (tg [0]) (CWo) ?_;clear AH AJ AG Jo JU JC;(try clear fa));intro xr hxr;obtain ⟨q1,q2⟩:=hxr;obtain ⟨i,y3⟩:=xr;dsimp only at q1 q2 ⊢;obtain ⟨r1,r2⟩:=AAl hfull q1 q2;have hRl:(X.set i (X.getD i 0-1)).length=X.length:=List.length_set ..;obtain ⟨R,hR⟩:∃R,X.set i (X.getD i 0-1)=R:=⟨_,rfl⟩;rw [hR] at hRl r1 ⊢;obtain ⟨w1,w2⟩:=hWn R hRl r1;have CT2:=CT R hRl;have C1:=GK (s:=t) (l:=F) (h:=⟨R,ms⟩) ⟨hFk2,by omega,by omega,by dsimp only;omega,by dsimp only;omega⟩;have hwl:(Hm t F ⟨R,ms⟩).length≤1000:=by
      unfold Hm DC;split
      ·have:=KA (fun k=>Dn t ⟨Aq R k,ms⟩ (Hf t ⟨Aq R k,ms⟩) F) R.length;dsimp only at this ⊢;omega
      ·simp
     have CM:=wW (Hm t F ⟨R,ms⟩) tl (by omega) (by omega) (fun z hz=>by rw [hTl];exact w1 z hz);rw [w2] at CM;have hb2:=l4 R tl R.length;rw [hRl] at CT2 hb2;have hwl2:(Hm t G ⟨x5 R tl X.length,ms'⟩).length≤1000:=by
      rw [←w2,(wQ _).length_eq];unfold o8;rw [List.length_map];exact hwl
     obtain ⟨B2,hB2⟩:∃B2,x5 R tl X.length=B2:=⟨_,rfl⟩;rw [hB2] at CM CT2 hb2 hwl2;have C2:=GK (s:=t) (l:=G) (h:=⟨B2,ms'⟩) ⟨hGk,by omega,by omega,by dsimp only;omega,by dsimp only;omega⟩;obtain ⟨W1,hW1⟩:∃W1,Hm t F ⟨R,ms⟩=W1:=⟨_,rfl⟩;obtain ⟨W2,hW2⟩:∃W2,Hm t G ⟨B2,ms'⟩=W2:=⟨_,rfl⟩;rw [hW1] at C1 CM;rw [hW2] at C2 CM hwl2;have qCQ:=Lb W2 W2 (by omega);rw [decide_eq_true rfl] at qCQ;have hTR:List.take X.length R=R:=List.take_of_length_le (by omega);have hTR2:X.length≤R.length:=by omega
     clear w1 w2 hW1 hW2 hB2 hR r1 r2 q1 q2 hWn;(have fa:=(And.intro hTX (And.intro hTR (And.intro hTR2 @Ay)));(repeat' first|refine zS C1 ?_|refine zS CM ?_|refine zS CT2 ?_|refine zS C2 ?_|refine zS qCQ ?_|refine zS Gy ?_|refine zQ ?_|refine zN ?_;intro K hC hK|refine zM ?_;try clear hK hC K|refine zC ?_ ?_<;>intro hb|refine zK ?_;intro Jo JU JC AH AJ AG)<;>(try clear fa))
     refine Aa [] ?_ ?_<;>(first|exact AK|refine zE ?_)
theorem w7 (v0:Value) (nums:List Int) (a b:Int) (mi:Bool) (W:World) (w0:BO W v0 nums) (_x0:∀z∈nums,(Lit.int .i64 z).wf=true) (_w1:(Lit.int .i64 a).wf=true) (_w2:(Lit.int .i64 b).wf=true) :
  Calls Tryz.prog 16 #[v0, .int .i64 a, .int .i64 b, .bool mi] W (OF W (.bool true)):=by
 refine T0 (xV nums a b mi (NA w0)) ⟨rfl,fun i x y hx hy=> ?_⟩;match i,hx,hy with
 | 0,hx,hy=>simp at hx hy;subst hx hy;exact ER w0
 | 1,hx,hy=>simp at hx hy;subst hx hy;exact .v _
 | 2,hx,hy=>simp at hx hy;subst hx hy;exact .v _
 | 3,hx,hy=>simp at hx hy;subst hx hy;exact .v _
 | n+4,hx,hy=>simp at hx
end Go.Proofs.YthblfhgofopcaaaGreat
