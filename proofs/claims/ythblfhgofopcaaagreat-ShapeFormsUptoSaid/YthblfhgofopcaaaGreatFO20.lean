/-
  Parts of the proof: WForms.
-/
import Derived.Test.YthblfhgofopcaaaGreatFO19
import Derived.Test.YthblfhgofopcaaaGreatSH13
import Derived.Test.YthblfhgofopcaaaGreatSH14
import Derived.Test.YthblfhgofopcaaaGreatFO18
set_option linter.all false
namespace Go.Proofs.YthblfhgofopcaaaGreat
open Go.RowKit
set_option maxRecDepth 100000
set_option maxHeartbeats 2000000
theorem wY (a:List Int) (ha:a.length≤1000000):AM Tryz.prog 35 [AN false a,AN false a] (B true):=by
 have:=Lb a a ha;rw [decide_eq_true rfl] at this;exact this
theorem nD (l:List Fm) (h0:l.length≤1000000) (h:∀f∈l,f.ks.length≤1000000):AM Tryz.prog 24 [Bh false l,Bh false l] (B true):=by
 refine zb Tryz.ntmps24 ?_;let tb:=fN;let lv:=cU;(have fa:= @bne_self_eq_false.{0};(repeat' first|refine zQ ?_|refine zN ?_;intro K hC hK|refine zM ?_;try clear hK hC K|refine zC ?_ ?_<;>intro hb|refine zK ?_;intro Jo JU JC AH AJ AG)<;>(try clear fa))
 refine Ab l.length (fun j σ=>σ=⟨900,[(0,Bh false l),(1,Bh false l),(5,I j)],[]⟩) [] [] 0 [0,1,5] 900 zf zf (by exact zV) ?_;rintro j σ' hj rfl J hcJ hJ;by_cases hlt:j<l.length
 ·obtain ⟨r,hr⟩:∃r,l[j]=r:=⟨_,rfl⟩;have CS:=wY r.ks (h r (by rw [←hr];exact List.getElem_mem hlt));(have fa:=(And.intro hr @bne_self_eq_false.{0});(repeat' first|refine zS CS ?_|refine zQ ?_|refine zN ?_;intro K hC hK|refine zM ?_;try clear hK hC K|refine zC ?_ ?_<;>intro hb|refine zK ?_;intro Jo JU JC AH AJ AG)<;>(try clear fa))
  exact hJ _ hlt (by exact zV)
 ·obtain rfl:j=l.length:=by omega
  (repeat' first|refine zQ ?_|refine zN ?_;intro K hC hK|refine zM ?_;try clear hK hC K|refine zC ?_ ?_<;>intro hb|refine zK ?_;intro Jo JU JC AH AJ AG)
  refine Aa [] ?_ ?_<;>(first|exact AK|refine zE ?_)
theorem wK (l:List Fm) (hp:0<l.length) (h0:l.length≤1000000) (h:∀f∈l,f.ks.length≤1000000):AM Tryz.prog 19 [Bh false l] (Bh true l):=by
 refine zb Tryz.ntmps19 ?_;let tb:=gW;let lv:=aD;(repeat' first|refine zQ ?_|refine zN ?_;intro K hC hK|refine zM ?_;try clear hK hC K|refine zC ?_ ?_<;>intro hb|refine zK ?_;intro Jo JU JC AH AJ AG)
 refine A8 (BY 3 500 0 3 (by rfl) (by rfl)) (α:=Nat×Nat) (fun a=>[(0,Bh false l),(3, .rsl 0 a.2 0 (l.take a.1).length),(4,I a.1)]) (fun a=>[(0, .arr a.2 3 ((l.take a.1).map (DN true)))])
  (fun a=>l.length-a.1) (fun a=>a.1≤l.length) [(500,0)] [(0,0)] 1 [0,3,4] 900 zf zf (0,0) (Nat.zero_le _) (by (have fa:=(And.intro @Dg.eq_1 (And.intro @Ci.eq_1 @Ci.eq_2));exact CZ)) ?_
 rintro ⟨k,g⟩ hk J hcJ hJ;dsimp only at hk hJ ⊢;by_cases hlt:k<l.length
 ·obtain ⟨f,hf⟩:∃f,l[k]=f:=⟨_,rfl⟩;have hfl:=h f (by rw [←hf];exact List.getElem_mem hlt);have hst:l.take (k+1)=l.take k++[f]:=by rw [List.take_succ_eq_append_getElem hlt,hf]
  have hln:(l.take k).length=k:=by rw [List.length_take];omega
  obtain ⟨L,hL⟩:∃L,l.take k=L:=⟨_,rfl⟩;rw [hL] at hst hln ⊢;have hTL:L.take L.length=L:=List.take_length;have hTk:f.ks.take f.ks.length=f.ks:=List.take_length;have hx:AV.agg [I f.wh,AN true f.ks,B f.ag]=DN true f:=rfl;(have fa:=(And.intro hf (And.intro hTL hTk));(repeat' first|refine zQ ?_|refine zN ?_;intro K hC hK|refine zM ?_;try clear hK hC K|refine zC ?_ ?_<;>intro hb|refine zK ?_;intro Jo JU JC AH AJ AG)<;>(try clear fa))
  exact hJ _ (k+1,g+1) (by dsimp only;omega) (by dsimp only;omega) (by (have fa:=(And.intro hst (And.intro @List.length_append.{0} (And.intro hx hTk)));exact C8))
 ·obtain rfl:k=l.length:=by omega
  (have fa:= @List.take_length.{0};(repeat' first|refine zQ ?_|refine zN ?_;intro K hC hK|refine zM ?_;try clear hK hC K|refine zC ?_ ?_<;>intro hb|refine zK ?_;intro Jo JU JC AH AJ AG)<;>(try clear fa))
  refine Aa [] ?_ ?_<;>(first|exact AK|refine zE ?_)
theorem j0:AM Tryz.prog 19 [.sl false 3 []] (.sl true 3 []):=by
 refine Ba ?_;refine zb Tryz.ntmps19 ?_;let tb:=gW;let lv:=aD;(repeat' first|refine zQ ?_|refine zN ?_;intro K hC hK|refine zM ?_;try clear hK hC K|refine zC ?_ ?_<;>intro hb|refine zK ?_;intro Jo JU JC AH AJ AG)
 refine Ab 0 (fun j σ=>σ=⟨900,[(0, .sl false 3 []),(3,Bw),(4,I j)],[]⟩) [] [] 0 [0,3,4] 900 zf zf (by exact zV) ?_;rintro j σ' hj rfl J hcJ hJ;obtain rfl:j=0:=by omega
 (repeat' first|refine zQ ?_|refine zN ?_;intro K hC hK|refine zM ?_;try clear hK hC K|refine zC ?_ ?_<;>intro hb|refine zK ?_;intro Jo JU JC AH AJ AG)
 refine Aa [] ?_ ?_<;>(first|exact AK|refine zE ?_);exact An.nil _ _
theorem wW (l:List Fm) (h0:l.length≤1000000) (h:∀f∈l,f.ks.length≤1000000):AM Tryz.prog 19 [Bh false l] (Bh true l):=by
 cases l with
 | nil=>exact j0
 | cons f l=>exact wK (f::l) (by simp) h0 h
set_option maxHeartbeats 16000000 in
theorem nS (s:AL) (f:Fm) (l:List Fm) (nums:List Int) (at_ by_:Int) (hn:nums.length≤9223372036854775807) (hll:l.length≤1048576):AM Tryz.prog 3 [AO s,DN false f,Bh false l,AN false nums,I at_,I by_] (B true):=by
 have CB:∀b,NJ s (f::l) ⟨[],[]⟩=b→AM Tryz.prog 17 [AO s, .sl false 3 (DN false f::l.map (DN false)), .agg [Bw,Bw]] (B b):=fun b hb=>by
  rw [←hb];exact OE (.cons .rfl' (.cons .rfl' (.cons (An.agg (.cons (An.nil false 1) (.cons (An.nil false 3) .nil))) .nil))) (RT s (f::l) ⟨[],[]⟩)
 have hTL:List.take (1+l.length) (DN false f::l.map (DN false))=DN false f::l.map (DN false):=List.take_of_length_le (by simp;omega);have hTL2:1+l.length≤l.length+1:=by omega
 cases c:NJ s (f::l) ⟨[],[]⟩ with
 | true =>
  have CB1:=CB _ c;refine zb Tryz.ntmps3 ?_;let tb:=xD;let lv:=wX;(have fa:=(And.intro hTL (And.intro hTL2 @Ay));(repeat' first|refine zS CB1 ?_|refine zS Gy ?_|refine zQ ?_|refine zN ?_;intro K hC hK|refine zM ?_;try clear hK hC K|refine zC ?_ ?_<;>intro hb|refine zK ?_;intro Jo JU JC AH AJ AG)<;>(try clear fa))
  refine Aa [] ?_ ?_<;>(first|exact AK|refine zE ?_)
 | false =>
  have CB1:=CB _ c;have hbl:s.su.length≤20∧l.length≤12:=by
   unfold NJ at c;simp at c;omega
  have hl1:∀g∈f::l,g.ks.length≤1000000:=fun g hg=>by
   unfold NJ at c;simp at c;have h1:=c.2.1;have h2:=c.2.2;rcases List.mem_cons.1 hg with rfl|hg
   ·omega
   ·have:=h2 g hg;omega
  clear c CB;obtain ⟨hsu,hll2⟩:=hbl;have hf1:=hl1 f (by simp);have hl2:∀g∈l,g.ks.length≤1000000:=fun g hg=>hl1 g (by simp [hg])
  have CC:=IF s f hf1 (by omega);have CR:=Hh s f hf1 (by omega);have CL:=Lr s l hl2 (by omega) (by omega);have CRL:=E4 s l hl2 (by omega) (by omega);have CO:=wW l (by omega) hl2;have CS:=nD l (by omega) hl2;refine zb Tryz.ntmps3 ?_;let tb:=xD;let lv:=wX;(have fa:=(And.intro hTL (And.intro hTL2 (And.intro @bne_self_eq_false.{0} @Ay)));(repeat' first|refine zS CB1 ?_|refine zS CC ?_|refine zS CR ?_|refine zS CL ?_|refine zS CRL ?_|refine zS CO ?_|refine zS CS ?_|refine zQ ?_|refine zN ?_;intro K hC hK|refine zM ?_;try clear hK hC K|refine zC ?_ ?_<;>intro hb|refine zK ?_;intro Jo JU JC AH AJ AG)<;>(try clear fa))
  (refine zX (tg []) (wZ nums hn) ?_;clear AH AJ AG Jo JU JC);intro xr hxr;obtain ⟨t,fs,gf,ga,gb,gc,y⟩:=xr;obtain ⟨hM,q1,q2,q3⟩:=hxr;dsimp only at hM q1 q2 q3 ⊢;have V:=hM.ok;have hsu3:=(AU V).su3;have CL2:=Lr t l hl2 (by omega) (by omega);have CRL2:=E4 t l hl2 (by omega) (by omega);have CI2:=C4 by_ 36 (by omega) (by omega);obtain ⟨v,hv⟩:∃v,by_ % (36:Int)=v:=⟨_,rfl⟩;have hv0:0≤v∧v<36:=by omega
  rw [hv] at CI2;match fs,q1,q2,q3 with
  | [a],q1,_,_ =>
   have ha:=(q1 a (by simp)).2;simp only [J5,Sl,W5,wR];(repeat' first|refine zQ ?_|refine zN ?_;intro K hC hK|refine zM ?_;try clear hK hC K|refine zC ?_ ?_<;>intro hb|refine zK ?_;intro Jo JU JC AH AJ AG)
   have hF:=SB.frz hC hK [(0,0)] 2 [2,15,16] 990 (BD (by decide) (by decide));clear hK;refine At (α:=Nat×List Int×List Int×List Int) (fun z=>[(2,Bh false l),(4,I at_),(5,I by_),(15, .ref 0 0 0 0),(16, .rsl 1 gf 0 1),(18,I z.1)]) (fun z=>[(0, .arr 0 9 [AO t]),(1, .arr gf 3 [Sg 2 ga a]),(2, .arr ga 1 (z.2.1.map I)),(3, .arr gb 1 (z.2.2.1.map I)),(4, .arr gc 1 (z.2.2.2.map I))]) (fun z=>1-z.1) (fun z=>z.1≤1∧z.2.1.length=a.ks.length∧z.2.2.1.length=([]:List Int).length∧z.2.2.2.length=([]:List Int).length) [(2256,0),(2161,1),(2162,2),(2163,3),(2164,4)] [(0,0),(1,1),(2,2),(3,3),(4,4)] 0 [2,4,5,15,16,18] 900 zf zf (0,a.ks,([]:List Int),([]:List Int)) ⟨Nat.zero_le _,rfl,rfl,rfl⟩ (by exact C8) ?_;rintro ⟨i,A0,A1,qA2⟩ ⟨i1,i2,i3,i4⟩ J hcJ hJ;dsimp only at i1 i2 i3 i4 hJ ⊢;by_cases hi:i<1
   ·obtain rfl:i=0:=by omega
    by_cases hk:0<A0.length∧¬at_.tmod 3=0
    ·obtain ⟨hk1,hk2⟩:=hk;have CI:=C4 at_ A0.length (by omega) (by omega);obtain ⟨z,hz,hzl⟩:∃z:Nat,at_ % (A0.length:Int)=z∧z<A0.length:=by
      have h0:=Int.emod_nonneg at_ (b:=(A0.length:Int)) (by omega);have h1:=Int.emod_lt_of_pos at_ (b:=(A0.length:Int)) (by omega);exact ⟨(at_ % (A0.length:Int)).toNat,by omega,by omega⟩
     rw [hz,i2] at CI;have hse:(A0.map I).set z (I (v-1))=(A0.set z (v-1)).map I:=(List.map_set ..).symm;(have fa:=(And.intro hk2 (And.intro hse @Ay));(repeat' first|refine zS CI ?_|refine zS CI2 ?_|refine zQ ?_|refine zN ?_;intro K hC hK|refine zM ?_;try clear hK hC K|refine zC ?_ ?_<;>intro hb|refine zK ?_;intro Jo JU JC AH AJ AG)<;>(try clear fa))
     refine hJ _ (1,A0.set z (v-1),A1,qA2) (by dsimp only;omega) ⟨by dsimp only;omega,by first|exact i2|(dsimp only;rw [List.length_set];exact i2),by first|exact i3|(dsimp only;rw [List.length_set];exact i3),by first|exact i4|(dsimp only;rw [List.length_set];exact i4)⟩ (by exact C8)
    ·have hk2:A0.length=0∨at_.tmod 3=0:=by omega
     (have fa:=hk2;(repeat' first|refine zQ ?_|refine zN ?_;intro K hC hK|refine zM ?_;try clear hK hC K|refine zC ?_ ?_<;>intro hb|refine zK ?_;intro Jo JU JC AH AJ AG)<;>(try clear fa))
     all_goals first
      | exact hJ _ (1,A0,A1,qA2) (by dsimp only;omega) ⟨by dsimp only;omega,i2,i3,i4⟩ (by exact C8)
      | (exfalso;omega)
   ·have e0:0=0:=rfl;obtain rfl:i=1:=by omega
    obtain ⟨fs',hfs⟩:∃fs' :List Fm,([⟨a.wh,A0,a.ag⟩]:List Fm)=fs' :=⟨_,rfl⟩;have hs:∀g∈fs',g.ks.length≤1000000:=fun g hg=>by rw [←hfs] at hg;simp at hg;subst hg<;>(dsimp only;omega)
    have hs2:fs'.length≤1000000:=by rw [←hfs];simp
    have CK1:AM Tryz.prog 22 [AO t, .sl false 3 [.agg [I a.wh, .sl false 1 (A0.map I),B a.ag]]] (I (A6 t fs')):=by subst hfs;exact Lr t ([⟨a.wh,A0,a.ag⟩]:List Fm) hs hs2 (by omega)
    have CK2:AM Tryz.prog 23 [AO t, .sl false 3 [.agg [I a.wh, .sl false 1 (A0.map I),B a.ag]]] (I (A6 t fs')):=by subst hfs;exact E4 t ([⟨a.wh,A0,a.ag⟩]:List Fm) hs hs2 (by omega)
    have hT0:A0.take A0.length=A0:=List.take_length;have hT1:A1.take A1.length=A1:=List.take_length;have hT2:qA2.take qA2.length=qA2:=List.take_length;rw [i2] at hT0;rw [i3] at hT1;rw [i4] at hT2;have hb1:(A6 t fs' ==A6 t fs')=true:=beq_self_eq_true _;have hb2:(A6 t l==A6 t l)=true:=beq_self_eq_true _;have hL0:=Nat.le_of_eq i2.symm;have hL1:=Nat.le_of_eq i3.symm;have hL2:=Nat.le_of_eq i4.symm;(repeat' first|refine zQ ?_|refine zN ?_;intro K hC hK|refine zM ?_;try clear hK hC K|refine zC ?_ ?_<;>intro hb|refine zK ?_;intro Jo JU JC AH AJ AG)
    refine hF _ [(2,Bh false l),(15, .ref 0 0 0 0),(16, .sl true 3 [.agg [I a.wh, .sl true 1 (A0.map I),B a.ag]])] [(0, .arr 0 9 [AO t])] (by (have fa:=(And.intro hT0 (And.intro hT1 (And.intro hT2 (And.intro hL0 (And.intro hL1 hL2)))));exact C8)) ?_;clear hF;(have fa:=(And.intro hb1 (And.intro hb2 @Ay));(repeat' first|refine zS CK1 ?_|refine zS CK2 ?_|refine zS CL2 ?_|refine zS CRL2 ?_|refine zS Gy ?_|refine zQ ?_|refine zN ?_;intro K hC hK|refine zM ?_;try clear hK hC K|refine zC ?_ ?_<;>intro hb|refine zK ?_;intro Jo JU JC AH AJ AG)<;>(try clear fa))
    refine Aa [] ?_ ?_<;>(first|exact AK|refine zE ?_)
  | [a,b],q1,_,_ =>
   have ha:=(q1 a (by simp)).2;have hb:=(q1 b (by simp)).2;simp only [J5,Sl,W5,wR];(repeat' first|refine zQ ?_|refine zN ?_;intro K hC hK|refine zM ?_;try clear hK hC K|refine zC ?_ ?_<;>intro hb|refine zK ?_;intro Jo JU JC AH AJ AG)
   have hF:=SB.frz hC hK [(0,0)] 2 [2,15,16] 990 (BD (by decide) (by decide));clear hK;refine At (α:=Nat×List Int×List Int×List Int) (fun z=>[(2,Bh false l),(4,I at_),(5,I by_),(15, .ref 0 0 0 0),(16, .rsl 1 gf 0 2),(18,I z.1)]) (fun z=>[(0, .arr 0 9 [AO t]),(1, .arr gf 3 [Sg 2 ga a,Sg 3 gb b]),(2, .arr ga 1 (z.2.1.map I)),(3, .arr gb 1 (z.2.2.1.map I)),(4, .arr gc 1 (z.2.2.2.map I))]) (fun z=>2-z.1) (fun z=>z.1≤2∧z.2.1.length=a.ks.length∧z.2.2.1.length=b.ks.length∧z.2.2.2.length=([]:List Int).length) [(2256,0),(2161,1),(2162,2),(2163,3),(2164,4)] [(0,0),(1,1),(2,2),(3,3),(4,4)] 0 [2,4,5,15,16,18] 900 zf zf (0,a.ks,b.ks,([]:List Int)) ⟨Nat.zero_le _,rfl,rfl,rfl⟩ (by exact C8) ?_;rintro ⟨i,A0,A1,qA2⟩ ⟨i1,i2,i3,i4⟩ J hcJ hJ;dsimp only at i1 i2 i3 i4 hJ ⊢;by_cases hi:i<2
   ·have hi3:i=0∨i=1:=by omega
    rcases hi3 with rfl|rfl
    ·have e0:0=0:=rfl;by_cases hk:0<A0.length∧¬at_.tmod 3=0
     ·obtain ⟨hk1,hk2⟩:=hk;have CI:=C4 at_ A0.length (by omega) (by omega);obtain ⟨z,hz,hzl⟩:∃z:Nat,at_ % (A0.length:Int)=z∧z<A0.length:=by
       have h0:=Int.emod_nonneg at_ (b:=(A0.length:Int)) (by omega);have h1:=Int.emod_lt_of_pos at_ (b:=(A0.length:Int)) (by omega);exact ⟨(at_ % (A0.length:Int)).toNat,by omega,by omega⟩
      rw [hz,i2] at CI;have hse:(A0.map I).set z (I (v-1))=(A0.set z (v-1)).map I:=(List.map_set ..).symm;(have fa:=(And.intro hk2 (And.intro hse @Ay));(repeat' first|refine zS CI ?_|refine zS CI2 ?_|refine zQ ?_|refine zN ?_;intro K hC hK|refine zM ?_;try clear hK hC K|refine zC ?_ ?_<;>intro hb|refine zK ?_;intro Jo JU JC AH AJ AG)<;>(try clear fa))
      refine hJ _ (1,A0.set z (v-1),A1,qA2) (by dsimp only;omega) ⟨by dsimp only;omega,by first|exact i2|(dsimp only;rw [List.length_set];exact i2),by first|exact i3|(dsimp only;rw [List.length_set];exact i3),by first|exact i4|(dsimp only;rw [List.length_set];exact i4)⟩ (by exact C8)
     ·have hk2:A0.length=0∨at_.tmod 3=0:=by omega
      (have fa:=hk2;(repeat' first|refine zQ ?_|refine zN ?_;intro K hC hK|refine zM ?_;try clear hK hC K|refine zC ?_ ?_<;>intro hb|refine zK ?_;intro Jo JU JC AH AJ AG)<;>(try clear fa))
      all_goals first
       | exact hJ _ (1,A0,A1,qA2) (by dsimp only;omega) ⟨by dsimp only;omega,i2,i3,i4⟩ (by exact C8)
       | (exfalso;omega)
    ·have e0:0=0:=rfl;by_cases hk:0<A1.length∧¬at_.tmod 3=0
     ·obtain ⟨hk1,hk2⟩:=hk;have CI:=C4 at_ A1.length (by omega) (by omega);obtain ⟨z,hz,hzl⟩:∃z:Nat,at_ % (A1.length:Int)=z∧z<A1.length:=by
       have h0:=Int.emod_nonneg at_ (b:=(A1.length:Int)) (by omega);have h1:=Int.emod_lt_of_pos at_ (b:=(A1.length:Int)) (by omega);exact ⟨(at_ % (A1.length:Int)).toNat,by omega,by omega⟩
      rw [hz,i3] at CI;have hse:(A1.map I).set z (I (v-1))=(A1.set z (v-1)).map I:=(List.map_set ..).symm;(have fa:=(And.intro hk2 (And.intro hse @Ay));(repeat' first|refine zS CI ?_|refine zS CI2 ?_|refine zQ ?_|refine zN ?_;intro K hC hK|refine zM ?_;try clear hK hC K|refine zC ?_ ?_<;>intro hb|refine zK ?_;intro Jo JU JC AH AJ AG)<;>(try clear fa))
      refine hJ _ (2,A0,A1.set z (v-1),qA2) (by dsimp only;omega) ⟨by dsimp only;omega,by first|exact i2|(dsimp only;rw [List.length_set];exact i2),by first|exact i3|(dsimp only;rw [List.length_set];exact i3),by first|exact i4|(dsimp only;rw [List.length_set];exact i4)⟩ (by exact C8)
     ·have hk2:A1.length=0∨at_.tmod 3=0:=by omega
      (have fa:=hk2;(repeat' first|refine zQ ?_|refine zN ?_;intro K hC hK|refine zM ?_;try clear hK hC K|refine zC ?_ ?_<;>intro hb|refine zK ?_;intro Jo JU JC AH AJ AG)<;>(try clear fa))
      all_goals first
       | exact hJ _ (2,A0,A1,qA2) (by dsimp only;omega) ⟨by dsimp only;omega,i2,i3,i4⟩ (by exact C8)
       | (exfalso;omega)
   ·have e0:0=0:=rfl;obtain rfl:i=2:=by omega
    obtain ⟨fs',hfs⟩:∃fs' :List Fm,([⟨a.wh,A0,a.ag⟩,⟨b.wh,A1,b.ag⟩]:List Fm)=fs' :=⟨_,rfl⟩;have hs:∀g∈fs',g.ks.length≤1000000:=fun g hg=>by rw [←hfs] at hg;simp at hg;rcases hg with rfl|rfl<;>(dsimp only;omega)
    have hs2:fs'.length≤1000000:=by rw [←hfs];simp
    have CK1:AM Tryz.prog 22 [AO t, .sl false 3 [.agg [I a.wh, .sl false 1 (A0.map I),B a.ag], .agg [I b.wh, .sl false 1 (A1.map I),B b.ag]]] (I (A6 t fs')):=by subst hfs;exact Lr t ([⟨a.wh,A0,a.ag⟩,⟨b.wh,A1,b.ag⟩]:List Fm) hs hs2 (by omega)
    have CK2:AM Tryz.prog 23 [AO t, .sl false 3 [.agg [I a.wh, .sl false 1 (A0.map I),B a.ag], .agg [I b.wh, .sl false 1 (A1.map I),B b.ag]]] (I (A6 t fs')):=by subst hfs;exact E4 t ([⟨a.wh,A0,a.ag⟩,⟨b.wh,A1,b.ag⟩]:List Fm) hs hs2 (by omega)
    have hT0:A0.take A0.length=A0:=List.take_length;have hT1:A1.take A1.length=A1:=List.take_length;have hT2:qA2.take qA2.length=qA2:=List.take_length;rw [i2] at hT0;rw [i3] at hT1;rw [i4] at hT2;have hb1:(A6 t fs' ==A6 t fs')=true:=beq_self_eq_true _;have hb2:(A6 t l==A6 t l)=true:=beq_self_eq_true _;have hL0:=Nat.le_of_eq i2.symm;have hL1:=Nat.le_of_eq i3.symm;have hL2:=Nat.le_of_eq i4.symm;(repeat' first|refine zQ ?_|refine zN ?_;intro K hC hK|refine zM ?_;try clear hK hC K|refine zC ?_ ?_<;>intro hb|refine zK ?_;intro Jo JU JC AH AJ AG)
    refine hF _ [(2,Bh false l),(15, .ref 0 0 0 0),(16, .sl true 3 [.agg [I a.wh, .sl true 1 (A0.map I),B a.ag], .agg [I b.wh, .sl true 1 (A1.map I),B b.ag]])] [(0, .arr 0 9 [AO t])] (by (have fa:=(And.intro hT0 (And.intro hT1 (And.intro hT2 (And.intro hL0 (And.intro hL1 hL2)))));exact C8)) ?_;clear hF;(have fa:=(And.intro hb1 (And.intro hb2 @Ay));(repeat' first|refine zS CK1 ?_|refine zS CK2 ?_|refine zS CL2 ?_|refine zS CRL2 ?_|refine zS Gy ?_|refine zQ ?_|refine zN ?_;intro K hC hK|refine zM ?_;try clear hK hC K|refine zC ?_ ?_<;>intro hb|refine zK ?_;intro Jo JU JC AH AJ AG)<;>(try clear fa))
    refine Aa [] ?_ ?_<;>(first|exact AK|refine zE ?_)
  | [a,b,d],q1,_,_ =>
   have ha:=(q1 a (by simp)).2;have hb:=(q1 b (by simp)).2;have hd:=(q1 d (by simp)).2;simp only [J5,Sl,W5,wR];(repeat' first|refine zQ ?_|refine zN ?_;intro K hC hK|refine zM ?_;try clear hK hC K|refine zC ?_ ?_<;>intro hb|refine zK ?_;intro Jo JU JC AH AJ AG)
   have hF:=SB.frz hC hK [(0,0)] 2 [2,15,16] 990 (BD (by decide) (by decide));clear hK;refine At (α:=Nat×List Int×List Int×List Int) (fun z=>[(2,Bh false l),(4,I at_),(5,I by_),(15, .ref 0 0 0 0),(16, .rsl 1 gf 0 3),(18,I z.1)]) (fun z=>[(0, .arr 0 9 [AO t]),(1, .arr gf 3 [Sg 2 ga a,Sg 3 gb b,Sg 4 gc d]),(2, .arr ga 1 (z.2.1.map I)),(3, .arr gb 1 (z.2.2.1.map I)),(4, .arr gc 1 (z.2.2.2.map I))]) (fun z=>3-z.1) (fun z=>z.1≤3∧z.2.1.length=a.ks.length∧z.2.2.1.length=b.ks.length∧z.2.2.2.length=d.ks.length) [(2256,0),(2161,1),(2162,2),(2163,3),(2164,4)] [(0,0),(1,1),(2,2),(3,3),(4,4)] 0 [2,4,5,15,16,18] 900 zf zf (0,a.ks,b.ks,d.ks) ⟨Nat.zero_le _,rfl,rfl,rfl⟩ (by exact C8) ?_;rintro ⟨i,A0,A1,qA2⟩ ⟨i1,i2,i3,i4⟩ J hcJ hJ;dsimp only at i1 i2 i3 i4 hJ ⊢;by_cases hi:i<3
   ·have hi3:i=0∨i=1∨i=2:=by omega
    rcases hi3 with rfl|rfl|rfl
    ·have e0:0=0:=rfl;by_cases hk:0<A0.length∧¬at_.tmod 3=0
     ·obtain ⟨hk1,hk2⟩:=hk;have CI:=C4 at_ A0.length (by omega) (by omega);obtain ⟨z,hz,hzl⟩:∃z:Nat,at_ % (A0.length:Int)=z∧z<A0.length:=by
       have h0:=Int.emod_nonneg at_ (b:=(A0.length:Int)) (by omega);have h1:=Int.emod_lt_of_pos at_ (b:=(A0.length:Int)) (by omega);exact ⟨(at_ % (A0.length:Int)).toNat,by omega,by omega⟩
      rw [hz,i2] at CI;have hse:(A0.map I).set z (I (v-1))=(A0.set z (v-1)).map I:=(List.map_set ..).symm;(have fa:=(And.intro hk2 (And.intro hse @Ay));(repeat' first|refine zS CI ?_|refine zS CI2 ?_|refine zQ ?_|refine zN ?_;intro K hC hK|refine zM ?_;try clear hK hC K|refine zC ?_ ?_<;>intro hb|refine zK ?_;intro Jo JU JC AH AJ AG)<;>(try clear fa))
      refine hJ _ (1,A0.set z (v-1),A1,qA2) (by dsimp only;omega) ⟨by dsimp only;omega,by first|exact i2|(dsimp only;rw [List.length_set];exact i2),by first|exact i3|(dsimp only;rw [List.length_set];exact i3),by first|exact i4|(dsimp only;rw [List.length_set];exact i4)⟩ (by exact C8)
     ·have hk2:A0.length=0∨at_.tmod 3=0:=by omega
      (have fa:=hk2;(repeat' first|refine zQ ?_|refine zN ?_;intro K hC hK|refine zM ?_;try clear hK hC K|refine zC ?_ ?_<;>intro hb|refine zK ?_;intro Jo JU JC AH AJ AG)<;>(try clear fa))
      all_goals first
       | exact hJ _ (1,A0,A1,qA2) (by dsimp only;omega) ⟨by dsimp only;omega,i2,i3,i4⟩ (by exact C8)
       | (exfalso;omega)
    ·have e0:0=0:=rfl;by_cases hk:0<A1.length∧¬at_.tmod 3=0
     ·obtain ⟨hk1,hk2⟩:=hk;have CI:=C4 at_ A1.length (by omega) (by omega);obtain ⟨z,hz,hzl⟩:∃z:Nat,at_ % (A1.length:Int)=z∧z<A1.length:=by
       have h0:=Int.emod_nonneg at_ (b:=(A1.length:Int)) (by omega);have h1:=Int.emod_lt_of_pos at_ (b:=(A1.length:Int)) (by omega);exact ⟨(at_ % (A1.length:Int)).toNat,by omega,by omega⟩
      rw [hz,i3] at CI;have hse:(A1.map I).set z (I (v-1))=(A1.set z (v-1)).map I:=(List.map_set ..).symm;(have fa:=(And.intro hk2 (And.intro hse @Ay));(repeat' first|refine zS CI ?_|refine zS CI2 ?_|refine zQ ?_|refine zN ?_;intro K hC hK|refine zM ?_;try clear hK hC K|refine zC ?_ ?_<;>intro hb|refine zK ?_;intro Jo JU JC AH AJ AG)<;>(try clear fa))
      refine hJ _ (2,A0,A1.set z (v-1),qA2) (by dsimp only;omega) ⟨by dsimp only;omega,by first|exact i2|(dsimp only;rw [List.length_set];exact i2),by first|exact i3|(dsimp only;rw [List.length_set];exact i3),by first|exact i4|(dsimp only;rw [List.length_set];exact i4)⟩ (by exact C8)
     ·have hk2:A1.length=0∨at_.tmod 3=0:=by omega
      (have fa:=hk2;(repeat' first|refine zQ ?_|refine zN ?_;intro K hC hK|refine zM ?_;try clear hK hC K|refine zC ?_ ?_<;>intro hb|refine zK ?_;intro Jo JU JC AH AJ AG)<;>(try clear fa))
      all_goals first
       | exact hJ _ (2,A0,A1,qA2) (by dsimp only;omega) ⟨by dsimp only;omega,i2,i3,i4⟩ (by exact C8)
       | (exfalso;omega)
    ·have e0:0=0:=rfl;by_cases hk:0<qA2.length∧¬at_.tmod 3=0
     ·obtain ⟨hk1,hk2⟩:=hk;have CI:=C4 at_ qA2.length (by omega) (by omega);obtain ⟨z,hz,hzl⟩:∃z:Nat,at_ % (qA2.length:Int)=z∧z<qA2.length:=by
       have h0:=Int.emod_nonneg at_ (b:=(qA2.length:Int)) (by omega);have h1:=Int.emod_lt_of_pos at_ (b:=(qA2.length:Int)) (by omega);exact ⟨(at_ % (qA2.length:Int)).toNat,by omega,by omega⟩
      rw [hz,i4] at CI;have hse:(qA2.map I).set z (I (v-1))=(qA2.set z (v-1)).map I:=(List.map_set ..).symm;(have fa:=(And.intro hk2 (And.intro hse @Ay));(repeat' first|refine zS CI ?_|refine zS CI2 ?_|refine zQ ?_|refine zN ?_;intro K hC hK|refine zM ?_;try clear hK hC K|refine zC ?_ ?_<;>intro hb|refine zK ?_;intro Jo JU JC AH AJ AG)<;>(try clear fa))
      refine hJ _ (3,A0,A1,qA2.set z (v-1)) (by dsimp only;omega) ⟨by dsimp only;omega,by first|exact i2|(dsimp only;rw [List.length_set];exact i2),by first|exact i3|(dsimp only;rw [List.length_set];exact i3),by first|exact i4|(dsimp only;rw [List.length_set];exact i4)⟩ (by exact C8)
     ·have hk2:qA2.length=0∨at_.tmod 3=0:=by omega
      (have fa:=hk2;(repeat' first|refine zQ ?_|refine zN ?_;intro K hC hK|refine zM ?_;try clear hK hC K|refine zC ?_ ?_<;>intro hb|refine zK ?_;intro Jo JU JC AH AJ AG)<;>(try clear fa))
      all_goals first
       | exact hJ _ (3,A0,A1,qA2) (by dsimp only;omega) ⟨by dsimp only;omega,i2,i3,i4⟩ (by exact C8)
       | (exfalso;omega)
   ·have e0:0=0:=rfl;obtain rfl:i=3:=by omega
    obtain ⟨fs',hfs⟩:∃fs' :List Fm,([⟨a.wh,A0,a.ag⟩,⟨b.wh,A1,b.ag⟩,⟨d.wh,qA2,d.ag⟩]:List Fm)=fs' :=⟨_,rfl⟩;have hs:∀g∈fs',g.ks.length≤1000000:=fun g hg=>by rw [←hfs] at hg;simp at hg;rcases hg with rfl|rfl|rfl<;>(dsimp only;omega)
    have hs2:fs'.length≤1000000:=by rw [←hfs];simp
    have CK1:AM Tryz.prog 22 [AO t, .sl false 3 [.agg [I a.wh, .sl false 1 (A0.map I),B a.ag], .agg [I b.wh, .sl false 1 (A1.map I),B b.ag], .agg [I d.wh, .sl false 1 (qA2.map I),B d.ag]]] (I (A6 t fs')):=by subst hfs;exact Lr t ([⟨a.wh,A0,a.ag⟩,⟨b.wh,A1,b.ag⟩,⟨d.wh,qA2,d.ag⟩]:List Fm) hs hs2 (by omega)
    have CK2:AM Tryz.prog 23 [AO t, .sl false 3 [.agg [I a.wh, .sl false 1 (A0.map I),B a.ag], .agg [I b.wh, .sl false 1 (A1.map I),B b.ag], .agg [I d.wh, .sl false 1 (qA2.map I),B d.ag]]] (I (A6 t fs')):=by subst hfs;exact E4 t ([⟨a.wh,A0,a.ag⟩,⟨b.wh,A1,b.ag⟩,⟨d.wh,qA2,d.ag⟩]:List Fm) hs hs2 (by omega)
    have hT0:A0.take A0.length=A0:=List.take_length;have hT1:A1.take A1.length=A1:=List.take_length;have hT2:qA2.take qA2.length=qA2:=List.take_length;rw [i2] at hT0;rw [i3] at hT1;rw [i4] at hT2;have hb1:(A6 t fs' ==A6 t fs')=true:=beq_self_eq_true _;have hb2:(A6 t l==A6 t l)=true:=beq_self_eq_true _;have hL0:=Nat.le_of_eq i2.symm;have hL1:=Nat.le_of_eq i3.symm;have hL2:=Nat.le_of_eq i4.symm;(repeat' first|refine zQ ?_|refine zN ?_;intro K hC hK|refine zM ?_;try clear hK hC K|refine zC ?_ ?_<;>intro hb|refine zK ?_;intro Jo JU JC AH AJ AG)
    refine hF _ [(2,Bh false l),(15, .ref 0 0 0 0),(16, .sl true 3 [.agg [I a.wh, .sl true 1 (A0.map I),B a.ag], .agg [I b.wh, .sl true 1 (A1.map I),B b.ag], .agg [I d.wh, .sl true 1 (qA2.map I),B d.ag]])] [(0, .arr 0 9 [AO t])] (by (have fa:=(And.intro hT0 (And.intro hT1 (And.intro hT2 (And.intro hL0 (And.intro hL1 hL2)))));exact C8)) ?_;clear hF;(have fa:=(And.intro hb1 (And.intro hb2 @Ay));(repeat' first|refine zS CK1 ?_|refine zS CK2 ?_|refine zS CL2 ?_|refine zS CRL2 ?_|refine zS Gy ?_|refine zQ ?_|refine zN ?_;intro K hC hK|refine zM ?_;try clear hK hC K|refine zC ?_ ?_<;>intro hb|refine zK ?_;intro Jo JU JC AH AJ AG)<;>(try clear fa))
    refine Aa [] ?_ ?_<;>(first|exact AK|refine zE ?_)
  | a::b::d::e::r,_,_,h=>exfalso;simp at h
theorem Z1 (v0:Value) (s:AL) (v1:Value) (f:Fm) (v2:Value) (l:List Fm) (v3:Value) (nums:List Int) (at_ by_:Int) (W:World) (w0:F5 W v0 s) (_x0:QN s) (w1:xE W v1 f) (w2:OY W v2 l) (w3:BO W v3 nums) (_x3:∀z∈nums,(Lit.int .i64 z).wf=true) (_w4:(Lit.int .i64 at_).wf=true) (_w5:(Lit.int .i64 by_).wf=true) (hll:l.length≤1048576) :
  Calls Tryz.prog 3 #[v0,v1,v2,v3, .int .i64 at_, .int .i64 by_] W (OF W (.bool true)):=by
 refine T0 (nS s f l nums at_ by_ (NA w3) hll) ⟨rfl,fun i x y hx hy=> ?_⟩;match i,hx,hy with
 | 0,hx,hy=>simp at hx hy;subst hx hy;exact wM w0
 | 1,hx,hy=>simp at hx hy;subst hx hy;exact wU w1
 | 2,hx,hy=>simp at hx hy;subst hx hy;exact Ns w2
 | 3,hx,hy=>simp at hx hy;subst hx hy;exact ER w3
 | 4,hx,hy=>simp at hx hy;subst hx hy;exact .v _
 | 5,hx,hy=>simp at hx hy;subst hx hy;exact .v _
 | n+6,hx,hy=>simp at hx
end Go.Proofs.YthblfhgofopcaaaGreat
