/-
  Parts of the proof: Awk, FmK, KitB, HdN.
-/
import Derived.Test.YthblfhgofopcaaaGreatSH13
import Derived.Test.YthblfhgofopcaaaGreatSH14
import Derived.Test.YthblfhgofopcaaaGreatFO11
import Derived.Test.YthblfhgofopcaaaGreatFO12
import Derived.Test.YthblfhgofopcaaaGreatFO08
import Derived.Test.YthblfhgofopcaaaGreatFO01
import Derived.Test.YthblfhgofopcaaaGreatSH23
import Derived.Test.YthblfhgofopcaaaGreatFO03
set_option linter.all false
namespace Go.Proofs.YthblfhgofopcaaaGreat
open Go.RowKit
set_option maxRecDepth 100000
set_option maxHeartbeats 2000000
theorem K8 (s:AL) (f:Fm) (h:Hd) (hv:AP s=0) (hb:Sb h.bag) (hn:(h.bag.length:Int)=AY s) (hs:h.bag.sum≤14):AM Tryz.prog 133 [Ar s f h] (EG false (Eg (AT s) 20 h.bag)):=by
 have CS:=Hw s hv h.bag hb hn hs;refine zb Tryz.ntmps133 ?_;let tb:=ZA;let lv:=Yf;(have fa:= @Ar.eq_1;(repeat' first|refine zS CS ?_|refine zQ ?_|refine zN ?_;intro K hC hK|refine zM ?_;try clear hK hC K|refine zC ?_ ?_<;>intro hb|refine zK ?_;intro Jo JU JC AH AJ AG)<;>(try clear fa))
 refine Aa [] ?_ ?_<;>(first|exact AK|refine zE ?_);all_goals rfl
def PM (s:AL) (h:Hd) (f:Fm):List (List Gp):=if (h.me.length:Int)≤He s f then Eg (AT s) 20 h.bag else []
theorem LW (s:AL) (h:Hd) (f:Fm) (hw:f.wh=1) (hh:Ag s h=0):AM Tryz.prog 88 [AO s,DN false f,Cb false h] (EG false (PM s h f)):=by
 have ho:=DP hh;have V:=AU ho.va;have hme:=V.me;have hco:=V.co;have hhi:=ho.hi;have hmm:=ho.mm;obtain ⟨b1,b2,b3⟩:=Mx ho.va ho.cn;refine Mj s f h _ (by omega) hme (by omega) fun _=> ?_
 have:QB f.wh=133:=by rw [hw];rfl
 rw [this];exact K8 s f h ho.va b1 b2 (by omega)
def Ma:List Fm:=[⟨1,[],false⟩]
theorem Su (s:AL) (h:Hd) (hs:s.su.length≤1000000) (h1:h.me.length≤1000000) (h2:h.bag.length≤1000000):AM Tryz.prog 33 [AO s,Bh false Ma,Cb false h] (B (Dn s h (PM s h) Ma)) :=
 OD s h (PM s h) Ma (by simp [Ma]) (by simp [Ma]) hs h1 h2 fun hf _ f hfm=>LW s h f (by simp [Ma] at hfm;subst hfm;rfl) (by unfold Ch at hf;simp at hf;exact hf.2)
theorem QM (s:AL) (h:Hd) (hs:s.su.length≤1000000) (h1:h.me.length≤1000000) (h2:h.bag.length≤1000000):AM Tryz.prog 36 [AO s,Bh false Ma,Cb false h] (AN true (DC s h Ma fun k=>Dn s ⟨Aq h.bag k,h.me⟩ (PM s ⟨Aq h.bag k,h.me⟩) Ma)) :=
 M2 s h Ma _ (by simp [Ma]) (by simp [Ma]) hs h1 h2 fun _ k _=>Su s ⟨Aq h.bag k,h.me⟩ hs h1 (by dsimp only;rw [Cy];exact h2)
theorem A7 {s:AL} (hv:AP s=0):Km s=AQ s∧AY s=AQ s∧1≤AQ s∧AQ s≤34:=by
 have V:=AU hv;refine ⟨OP (fun z hz=>by have:=V.su z hz;omega) (by have:=V.su3;omega) (by have:=V.wi;omega) (by have:=V.dr;omega),?_,V.plain.1,V.plain.2⟩;unfold AY;rw [if_pos hv]
structure bD (P:Int) (l:List Int):Prop where
 ri:GR l
 rg:∀z∈l,0≤z∧z<P
theorem bD.len {P:Int} {l:List Int} (h:bD P l) (hP:P≤1000):l.length≤1000:=by
 have h1:=Pm (n:=P.toNat) h.ri (fun z hz=>by have:=h.rg z hz;omega);rw [h1];refine Nat.le_trans (List.length_filter_le _ _) ?_;have:∀n,(Ki n).length=n:=fun n=>by induction n with
  | zero=>rfl
  | succ n ih=>simp [Ki,ih]
 rw [this];omega
theorem Xs {P:Int} {l:List Int} {k:Nat} (h:bD (k:Int) l):bD ((k+1:Nat):Int) (l++[(k:Int)]):=by
 refine ⟨?_,fun z hz=> ?_⟩
 ·unfold GR;rw [List.pairwise_append];exact ⟨h.ri,by simp,fun a ha b hb=>by simp at hb;have:=h.rg a ha;omega⟩
 ·rcases List.mem_append.1 hz with hz|hz
  ·have:=h.rg z hz;omega
  ·simp at hz;omega
theorem LZ (x:Int) (s:AL) (hv:AP s=0) (n0:Int) (hn0:n0≤1000) (hn1: -1000≤n0):Hn Tryz.prog 152 [.ref 0 0 0 0,AO s,I n0] (Af x) (fun a:List Int×Nat×Int=> .rsl 1 a.2.1 0 a.1.length) (fun a=>[(0, .arr 0 1 [U a.2.2]),(1, .arr a.2.1 1 (a.1.map I))]) (fun a=>bD (AQ s) a.1):=by
 obtain ⟨p1,p2,p3,p4⟩:=A7 hv;have hsl:=(AU hv).su3;have CP:=Cm s (by omega);rw [p1] at CP;obtain ⟨P,hP⟩:∃P,AQ s=P:=⟨_,rfl⟩;rw [hP] at CP p3 p4 ⊢;unfold Hn Af;refine FL 1 Tryz.ntmps152 ?_;let tb:=Y3;let lv:=YA;(repeat' first|refine zQ ?_|refine zN ?_;intro K hC hK|refine zM ?_;try clear hK hC K|refine zC ?_ ?_<;>intro hb|refine zK ?_;intro Jo JU JC AH AJ AG)
 refine A8 (BY 7 500 0 1 (by rfl) (by rfl)) (α:=Nat×Int×List Int×Nat×Int) (fun a=>[(0, .ref 0 0 0 0),(2,I a.2.1),(4, .ref 2 0 0 0),(7, .rsl 1 a.2.2.2.1 0 a.2.2.1.length),(8,I a.1)]) (fun a=>[(0, .arr 0 1 [U a.2.2.2.2]),(1, .arr a.2.2.2.1 1 (a.2.2.1.map I)),(2, .arr 0 9 [AO s])])
  (fun a=>(P-a.1).toNat) (fun a=>(a.1:Int)≤P∧bD (a.1:Int) a.2.2.1∧a.2.1≤1000∧-1000≤a.2.1∧a.2.2.1.length≤a.1) [(0,0),(500,1),(64,2)] [(0,0),(1,1),(2,2)] 0 [0,2,4,7,8] 900 zg zg (0,n0,[],0,x) ⟨by dsimp only;omega,⟨List.Pairwise.nil,fun z hz=>by cases hz⟩,hn0,hn1,Nat.le_refl _⟩ (by (have fa:=(And.intro @Dg.eq_1 (And.intro @Ci.eq_1 @Ci.eq_2));exact CZ)) ?_
 rintro ⟨k,n,l,g,x'⟩ ⟨k1,k2,k3,k4,k5⟩ J hcJ hJ;dsimp only at k1 k2 k3 k4 k5 hJ ⊢;by_cases hk:(k:Int)<P
 ·have hb:=Av (x:=x') (n:=P-k) (by omega) (by omega);have hnx:bD ((k+1:Nat):Int) l:=⟨k2.ri,fun z hz=>by have:=k2.rg z hz;omega⟩;have CB:=BI x' (P-k) (by omega);by_cases h0:0<n
  ·by_cases h1:BC x' (P-k)<n
   ·(have fa:= @Af.eq_1;(repeat' first|refine zS CP ?_|refine zJ (tg [0]) CB ?_|refine zQ ?_|refine zN ?_;intro K hC hK|refine zM ?_;try clear hK hC K|refine zC ?_ ?_<;>intro hb|refine zK ?_;intro Jo JU JC AH AJ AG)<;>(try clear fa))
    refine hJ _ (k+1,n-1,l++[(k:Int)],g+1,AR x') (by dsimp only;omega) ⟨by dsimp only;omega,Xs (P:=P) k2,by dsimp only;omega,by dsimp only;omega,by simp;omega⟩ (by (have fa:= @List.length_append.{0};exact CZ))
   ·(have fa:= @Af.eq_1;(repeat' first|refine zS CP ?_|refine zJ (tg [0]) CB ?_|refine zQ ?_|refine zN ?_;intro K hC hK|refine zM ?_;try clear hK hC K|refine zC ?_ ?_<;>intro hb|refine zK ?_;intro Jo JU JC AH AJ AG)<;>(try clear fa))
    refine hJ _ (k+1,n,l,g,AR x') (by dsimp only;omega) ⟨by dsimp only;omega,hnx,by dsimp only;omega,by dsimp only;omega,by dsimp only;omega⟩ (by exact CZ)
  ·(repeat' first|refine zS CP ?_|refine zQ ?_|refine zN ?_;intro K hC hK|refine zM ?_;try clear hK hC K|refine zC ?_ ?_<;>intro hb|refine zK ?_;intro Jo JU JC AH AJ AG)
   refine hJ _ (k+1,n,l,g,x') (by dsimp only;omega) ⟨by dsimp only;omega,hnx,by dsimp only;omega,by dsimp only;omega,by dsimp only;omega⟩ (by exact CZ)
 ·(repeat' first|refine zS CP ?_|refine zQ ?_|refine zN ?_;intro K hC hK|refine zM ?_;try clear hK hC K|refine zC ?_ ?_<;>intro hb|refine zK ?_;intro Jo JU JC AH AJ AG)
  refine Aa [(0,0),(1,1)] ?_ ?_<;>(first|exact AK|refine zE ?_);have:(k:Int)=P:=by omega
  rw [this] at k2;exact ⟨(l,g,x'),k2,rfl,rfl⟩
theorem vG {X ks:List Int} (hk:D8 X.length ks) (hl:ks.length≤1000) (hX:∀i,-1000000≤X.getD i 0∧X.getD i 0≤1000000) (j:Nat) (i:Nat): -1000000000≤(A5 X (ks.take j)).getD i 0∧(A5 X (ks.take j)).getD i 0≤1000000000:=by
 rw [CY _ _ (fun y hy=>hk y (List.mem_of_mem_take hy))];have h1:=Cu (ks.take j) i;have h2:=Ai (ks.take j) i;have h3:=hX i;simp at h1;omega
theorem GB (g:Nat) (X ks:List Int) (hk:D8 X.length ks) (hl:ks.length≤1000) (hX:∀i,-1000000≤X.getD i 0∧X.getD i 0≤1000000) (hXl:X.length≤1000000):D3 Tryz.prog 111 [.rsl 0 g 0 X.length,AN false ks] [(0, .arr g 1 (X.map I))] (.tup []) [(0, .arr g 1 ((A5 X ks).map I))]:=by
 unfold D3;refine FL 1 Tryz.ntmps111 ?_;let tb:=ZO;let lv:=Xn;(repeat' first|refine zQ ?_|refine zN ?_;intro K hC hK|refine zM ?_;try clear hK hC K|refine zC ?_ ?_<;>intro hb|refine zK ?_;intro Jo JU JC AH AJ AG)
 refine Ab ks.length (fun j σ=>σ=⟨900,[(0, .rsl 0 g 0 X.length),(1,AN false ks),(4,I j)],[(0, .arr g 1 ((A5 X (ks.take j)).map I))]⟩) [(0,0)] [(0,0)] 0 [0,1,4] 900 zg zg (by (have fa:=(And.intro @A5.eq_1 (And.intro @List.take_zero.{0} @List.foldl_nil.{0,0}));exact zV)) ?_;rintro j σ' hj rfl J hcJ hJ;by_cases hlt:j<ks.length
 ·obtain ⟨z,hz⟩:∃z,ks[j]=z:=⟨_,rfl⟩;have hin:=hk z (by rw [←hz];exact List.getElem_mem hlt);have ht:=D4 X ks hlt;have hYl:=Bp (ks.take j) X;have hYb:=vG hk hl hX j;obtain ⟨Y,hYe⟩:∃Y,A5 X (ks.take j)=Y:=⟨_,rfl⟩;rw [hYe,hz] at ht;rw [hYe] at hYl hYb;have A:=I3 (X:=Y) (z:=z) hin.1 (by omega) hYb;have a1:=A.lt;have a2:=A.up;have a3:=A.st;rw [hYe];(have fa:=(And.intro hz (And.intro a2 a3));(repeat' first|refine zQ ?_|refine zN ?_;intro K hC hK|refine zM ?_;try clear hK hC K|refine zC ?_ ?_<;>intro hb|refine zK ?_;intro Jo JU JC AH AJ AG)<;>(try clear fa))
  exact hJ _ hlt (by (have fa:=ht;exact zV))
 ·obtain rfl:j=ks.length:=by omega
  rw [List.take_length];(repeat' first|refine zQ ?_|refine zN ?_;intro K hC hK|refine zM ?_;try clear hK hC K|refine zC ?_ ?_<;>intro hb|refine zK ?_;intro Jo JU JC AH AJ AG)
  refine Kh [(0,0)] ?_ ?_<;>(first|exact AK|refine zE ?_)
def FN (co:Int):List Int→List Int→Bool
 | _,[]=>true
 | X,k::ks=>if co<(Aq X k).getD k.toNat 0 then false else FN co (Aq X k) ks
theorem VA (co:Int) (X ks:List Int) {j:Nat} (h:j<ks.length):FN co X (ks.drop j)=if co<(Aq X ks[j]).getD ks[j].toNat 0 then false else FN co (Aq X ks[j]) (ks.drop (j+1)):=by
 rw [List.drop_eq_getElem_cons h,FN]
theorem P9 {co:Int}:∀{ks X:List Int},D8 X.length ks→(∀i,X.getD i 0≤co)→FN co X ks=true→∀i,(A5 X ks).getD i 0≤co
 | [],X,_,hX,_,i=>hX i
 | k::ks,X,hk,hX,h,i=>by
  have hk1:=hk k (by simp);rw [FN] at h;split at h
  ·cases h
  ·rename_i hc;show (A5 (Aq X k) ks).getD i 0≤co;refine P9 (fun z hz=>by rw [Cy];exact hk z (by simp [hz])) (fun i=> ?_) h i;have:=Gx hk1.1 hk1.2 i;by_cases hi:k=(i:Int)
   ·have:i=k.toNat:=by omega
    rw [this];omega
   ·rw [if_neg hi] at this;have:=hX i;omega
theorem Ik (s:AL) (X ks:List Int) (hk:D8 X.length ks) (hl:ks.length≤1000) (hX:∀i,-1000000≤X.getD i 0∧X.getD i 0≤1000000) (hXl:X.length≤1000000):AM Tryz.prog 110 [AO s,AN false X,AN false ks] (B (FN s.co X ks)):=by
 have hT:X.take X.length=X:=List.take_length;refine zb Tryz.ntmps110 ?_;let tb:=cQ;let lv:=X4;(repeat' first|refine zQ ?_|refine zN ?_;intro K hC hK|refine zM ?_;try clear hK hC K|refine zC ?_ ?_<;>intro hb|refine zK ?_;intro Jo JU JC AH AJ AG)
 refine Ab ks.length (fun j σ=>FN s.co X ks=FN s.co (A5 X (ks.take j)) (ks.drop j)∧σ=⟨900,[(2,AN false ks),(3, .ref 0 0 0 0),(7, .rsl 1 1 0 X.length),(8,I j)],[(0, .arr 0 9 [AO s]),(1, .arr 1 1 ((A5 X (ks.take j)).map I))]⟩) [(0,0),(32,1)] [(0,0),(1,1)] 0 [2,3,7,8] 900 zf zf ⟨rfl,by (have fa:=(And.intro @A5.eq_1 (And.intro @List.take_zero.{0} @List.foldl_nil.{0,0}));exact zV)⟩ ?_;rintro j σ' hj ⟨hR,rfl⟩ J hcJ hJ;by_cases hlt:j<ks.length
 ·obtain ⟨z,hz⟩:∃z,ks[j]=z:=⟨_,rfl⟩;have hin:=hk z (by rw [←hz];exact List.getElem_mem hlt);have ht:=D4 X ks hlt;have hYl:=Bp (ks.take j) X;have hYb:=vG hk hl hX j;have hD:=VA s.co (A5 X (ks.take j)) ks hlt;obtain ⟨Y,hYe⟩:∃Y,A5 X (ks.take j)=Y:=⟨_,rfl⟩;rw [hYe,hz] at ht;rw [hYe,hz] at hD;rw [hYe] at hYl hYb hR;have A:=I3 (X:=Y) (z:=z) hin.1 (by omega) hYb;have a1:=A.lt;have a2:=A.up;have a3:=A.st;have hnl:=Cy Y z;have hg1:=Gx (bag:=Y) hin.1 (by omega) z.toNat;rw [if_pos (by omega)] at hg1;obtain ⟨Z,hZ⟩:∃Z,Aq Y z=Z:=⟨_,rfl⟩;rw [hZ] at ht a3 hnl hg1 hD;have d4:z.toNat<Z.length:=by omega
  have d5:Z[z.toNat]=Z.getD z.toNat 0:=by simp [d4]
  rw [hYe];by_cases hc:s.co<Z.getD z.toNat 0
  ·rw [if_pos hc] at hD;(have fa:=(And.intro hz (And.intro a2 (And.intro a3 d5)));(repeat' first|refine zQ ?_|refine zN ?_;intro K hC hK|refine zM ?_;try clear hK hC K|refine zC ?_ ?_<;>intro hb|refine zK ?_;intro Jo JU JC AH AJ AG)<;>(try clear fa))
   refine Aa [] ?_ ?_<;>(first|exact AK|refine zE ?_);rw [hR,hD]
  ·rw [if_neg hc] at hD;(have fa:=(And.intro hz (And.intro a2 (And.intro a3 d5)));(repeat' first|refine zQ ?_|refine zN ?_;intro K hC hK|refine zM ?_;try clear hK hC K|refine zC ?_ ?_<;>intro hb|refine zK ?_;intro Jo JU JC AH AJ AG)<;>(try clear fa))
   refine hJ _ hlt ⟨?_,by (have fa:=ht;exact zV)⟩;rw [hR,hD,ht]
 ·(repeat' first|refine zQ ?_|refine zN ?_;intro K hC hK|refine zM ?_;try clear hK hC K|refine zC ?_ ?_<;>intro hb|refine zK ?_;intro Jo JU JC AH AJ AG)
  refine Aa [] ?_ ?_<;>(first|exact AK|refine zE ?_);rw [hR,List.drop_eq_nil_of_le (by omega)];rfl
@[go_sem] theorem WP (f:Nat→Option Nat) (x:Int):∀n:Nat,nobL f (List.replicate n (I x))=true
 | 0=>rfl
 | n+1=>by rw [List.replicate_succ];simp only [nobL,AV.nob,WP f x n];rfl
theorem VS (s:AL) (hv:AP s=0) (ks:List Int) (hk:∀z∈ks,0≤z∧z<AQ s) (hl:ks.length≤1000):Je Tryz.prog 169 [AO s,AN false ks] (.rsl 0 0 0 (AQ s).toNat) [(0, .arr 0 1 ((Dm ks (AQ s).toNat).map I))]:=by
 obtain ⟨p1,p2,p3,p4⟩:=A7 hv;have CP:=Cm s (by have:=(AU hv).su3;omega);rw [p1] at CP;obtain ⟨P,hP⟩:∃P:Nat,AQ s=(P:Int):=⟨(AQ s).toNat,by omega⟩;rw [hP] at CP p3 p4 hk ⊢;rw [Int.toNat_natCast];have CT:=GB 0 (List.replicate P 0) ks (fun z hz=>by rw [List.length_replicate];exact hk z hz) hl (fun i=>by rw [List.getD_eq_getElem?_getD,List.getElem?_replicate];split<;>simp) (by rw [List.length_replicate];omega);have e0:A5 (List.replicate P 0) ks=Dm ks P:=rfl;rw [e0] at CT;simp only [List.length_replicate] at CT;have hr:List.replicate P (AV.v (.int .i64 0))=(List.replicate P 0).map I:=by rw [List.map_replicate]
 refine zb Tryz.ntmps169 ?_;let tb:=bU;let lv:=Wv;(have fa:=hr;(repeat' first|refine zS CP ?_|refine zJ (tg [64]) CT ?_|refine zQ ?_|refine zN ?_;intro K hC hK|refine zM ?_;try clear hK hC K|refine zC ?_ ?_<;>intro hb|refine zK ?_;intro Jo JU JC AH AJ AG)<;>(try clear fa))
 refine Aa [(64,0)] ?_ ?_<;>(first|exact AK|refine zE ?_)
theorem fI (x:Int) (s:AL) (hv:AP s=0) (d:Bool):Hn Tryz.prog 109 [.ref 0 0 0 0,AO s,B d] (Af x) (fun a:Gp×Int=>AZ a.1) (fun a=>Af a.2) (fun a=>(1≤a.1.wh∧a.1.wh≤3)∧(0≤a.1.kd∧a.1.kd<AQ s)∧(d=false→a.1.wh≤2∧a.1.op=false)∧(d=true→a.1.wh≠3→a.1.op=true)):=by
 obtain ⟨p1,p2,p3,p4⟩:=A7 hv;have CP:=Cm s (by have:=(AU hv).su3;omega);rw [p1] at CP;obtain ⟨P,hP⟩:∃P,AQ s=P:=⟨_,rfl⟩;rw [hP] at CP p3 p4 ⊢;have b1:=Av (x:=x) (n:=2) (by omega) (by omega);have b2:=Av (x:=AR x) (n:=P) (by omega) (by omega);have CB:=BI (AR x) P (by omega);unfold Hn Af;by_cases hd:d=true∧BC (AR (AR x)) 4=0
 ·obtain ⟨rfl,h4⟩:=hd;refine FL 1 Tryz.ntmps109 ?_;let tb:=PX;let lv:=NN;(have fa:= @Af.eq_1;(repeat' first|refine zS CP ?_|refine zJ (tg [0]) (EC _ 1 2 (by omega) (by omega) (by omega)) ?_|refine zJ (tg [0]) CB ?_|refine zJ (tg [0]) (Dt _ 4 (by omega)) ?_|refine zJ (tg [0]) (Dt _ 2 (by omega)) ?_|refine zQ ?_|refine zN ?_;intro K hC hK|refine zM ?_;try clear hK hC K|refine zC ?_ ?_<;>intro hb|refine zK ?_;intro Jo JU JC AH AJ AG)<;>(try clear fa))
  refine Aa [(0,0)] ?_ ?_<;>(first|exact AK|refine zE ?_);exact ⟨(⟨3,BC (AR x) P,BC (AR (AR (AR x))) 2==0⟩,_),⟨⟨by simp,by simp⟩,b2,by simp,by simp⟩,rfl,rfl⟩
 ·cases d with
  | true =>
   have h4:¬BC (AR (AR x)) 4=0:=fun h=>hd ⟨rfl,h⟩
   refine FL 1 Tryz.ntmps109 ?_;let tb:=PX;let lv:=NN;(have fa:= @Af.eq_1;(repeat' first|refine zS CP ?_|refine zJ (tg [0]) (EC _ 1 2 (by omega) (by omega) (by omega)) ?_|refine zJ (tg [0]) CB ?_|refine zJ (tg [0]) (Dt _ 4 (by omega)) ?_|refine zQ ?_|refine zN ?_;intro K hC hK|refine zM ?_;try clear hK hC K|refine zC ?_ ?_<;>intro hb|refine zK ?_;intro Jo JU JC AH AJ AG)<;>(try clear fa))
   refine Aa [(0,0)] ?_ ?_<;>(first|exact AK|refine zE ?_);exact ⟨(⟨1+BC x 2,BC (AR x) P,true⟩,_),⟨⟨by dsimp only;omega,by dsimp only;omega⟩,b2,by simp,by simp⟩,rfl,rfl⟩
  | false =>
   refine FL 1 Tryz.ntmps109 ?_;let tb:=PX;let lv:=NN;(have fa:= @Af.eq_1;(repeat' first|refine zS CP ?_|refine zJ (tg [0]) (EC _ 1 2 (by omega) (by omega) (by omega)) ?_|refine zJ (tg [0]) CB ?_|refine zQ ?_|refine zN ?_;intro K hC hK|refine zM ?_;try clear hK hC K|refine zC ?_ ?_<;>intro hb|refine zK ?_;intro Jo JU JC AH AJ AG)<;>(try clear fa))
   refine Aa [(0,0)] ?_ ?_<;>(first|exact AK|refine zE ?_);exact ⟨(⟨1+BC x 2,BC (AR x) P,false⟩,_),⟨⟨by dsimp only;omega,by dsimp only;omega⟩,b2,fun _=>⟨by dsimp only;omega,rfl⟩,by simp⟩,rfl,rfl⟩
structure QU (s:AL) (ms:List Gp):Prop where
 ml:∀g∈ms,BJ s g=0
 ln:(ms.length:Int)≤s.me
structure Kx (s:AL) (P:Nat) (ms:List Gp) (X Y:List Int):Prop where
 xl:X.length=P
 yl:Y.length=P
 x0:∀i,0≤X.getD i 0
 y:∀i,Y.getD i 0=X.getD i 0+B7 ms i
 yc:∀i,Y.getD i 0≤s.co
theorem IQ:∀(ms:List Gp) (g:Gp) (i:Nat),B7 (ms++[g]) i=B7 ms i+Cz (AI g.wh g.kd) i
 | [],g,i=>by
  show Di g i+0=0+_;show Cz _ i+0=_;omega
 | x::ms,g,i=>by
  show Di x i+B7 (ms++[g]) i=(Di x i+B7 ms i)+_;rw [IQ ms g i];omega
theorem UC:∀(ms:List Gp) (i:Nat),0≤B7 ms i
 | [],i=>by show (0:Int)≤0;omega
 | x::ms,i=>by
  show 0≤Di x i+B7 ms i;have:=UC ms i;have:=Ds x i;omega
theorem M3 {X:List Int} {z:Int} (h0:0≤z) (h1:z<(X.length:Int)):(Aq X z).sum=X.sum+1:=by
 unfold Aq;rw [Pb _ _ _ (by omega)];omega
theorem Jm:∀(ks X:List Int),D8 X.length ks→(A5 X ks).sum=X.sum+ks.length
 | [],X,_=>by simp [A5]
 | k::ks,X,h=>by
  show (A5 (Aq X k) ks).sum=_;have hk:=h k (by simp);rw [Jm ks _ (fun z hz=>by rw [Cy];exact h z (by simp [hz])),M3 hk.1 hk.2];simp;omega
theorem Rw:∀(X Z Y:List Int),X.length=Y.length→Z.length=Y.length→(∀i,Y.getD i 0=X.getD i 0+Z.getD i 0)→Y.sum=X.sum+Z.sum
 | [],[],[],_,_,_=>rfl
 | x::X,z::Z,y::Y,h1,h2,h=>by
  have h0:=h 0;have:=Rw X Z Y (by simpa using h1) (by simpa using h2) fun i=>by simpa using h (i+1)
  simp at h0 ⊢;omega
 | [],_::_,[],_,h2,_=>by simp at h2
 | _::_,_,[],h1,_,_=>by simp at h1
 | [],_,_::_,h1,_,_=>by simp at h1
 | _::_,[],_::_,_,h2,_=>by simp at h2
theorem YF:∀(Y:List Int) (c:Int),(∀i,i<Y.length→c≤Y.getD i 0)→(Y.length:Int)*c≤Y.sum
 | [],c,_=>by simp
 | y::Y,c,h=>by
  have h0:=h 0 (by simp);have:=YF Y c fun i hi=>by simpa using h (i+1) (by simpa using hi)
  simp only [List.getD_cons_zero] at h0;simp only [List.length_cons,List.sum_cons,Int.natCast_add,Int.natCast_one,Int.add_mul,Int.one_mul];omega
theorem NC:∀{Y:List Int} {c:Int},(∀z∈Y,z≤c)→Y.sum≤(Y.length:Int)*c
 | [],c,_=>by simp
 | y::Y,c,h=>by
  have h0:=h y (by simp);have:=NC (Y:=Y) (c:=c) fun z hz=>h z (by simp [hz])
  simp only [List.length_cons,List.sum_cons,Int.natCast_add,Int.natCast_one,Int.add_mul,Int.one_mul];omega
theorem Dl (P i:Nat):(List.replicate P (0:Int)).getD i 0=0:=by
 rw [List.getD_eq_getElem?_getD,List.getElem?_replicate];split<;>rfl
theorem Qu:∀(ms:List Gp) (X:List Int),(∀g∈ms,D8 X.length (AI g.wh g.kd))→(Bi X ms).sum≤X.sum+4*ms.length
 | [],X,_=>by simp [Bi]
 | g::ms,X,h=>by
  show (Bi (A5 X (AI g.wh g.kd)) ms).sum≤_;have h1:=Qu ms (A5 X (AI g.wh g.kd)) fun x hx=>by rw [Bp];exact h x (by simp [hx])
  have h2:=Jm (AI g.wh g.kd) X (h g (by simp));have h3:=Bt g.wh g.kd;simp;omega
section
variable {s:AL} {P:Nat} {ms:List Gp} {X Y:List Int}
theorem Kx.start (h:0≤s.co):Kx s P [] (List.replicate P 0) (List.replicate P 0):=⟨by simp,by simp,fun i=>by rw [Dl];omega,fun i=>by rw [Dl];rfl,fun i=>by rw [Dl];exact h⟩
theorem Kx.rg (F:Kx s P ms X Y) (i:Nat):0≤X.getD i 0∧X.getD i 0≤s.co∧0≤Y.getD i 0∧Y.getD i 0≤s.co:=by
 have:=F.x0 i;have:=F.y i;have:=F.yc i;have:=UC ms i;omega
theorem Kx.meld (F:Kx s P ms X Y) {g:Gp} (hk:D8 P (AI g.wh g.kd)) (hf:FN s.co Y (AI g.wh g.kd)=true):Kx s P (ms++[g]) X (A5 Y (AI g.wh g.kd)):=by
 have hk' :D8 Y.length (AI g.wh g.kd):=by rw [F.yl];exact hk
 refine ⟨F.xl,by rw [Bp];exact F.yl,F.x0,fun i=> ?_,P9 hk' F.yc hf⟩;rw [CY _ _ hk',F.y i,IQ];omega
theorem Kx.put (F:Kx s P ms X Y) {l:List Int} (hk:D8 P l) (hf:FN s.co Y l=true):Kx s P ms (A5 X l) (A5 Y l):=by
 have hk' :D8 Y.length l:=by rw [F.yl];exact hk
 have hx' :D8 X.length l:=by rw [F.xl];exact hk
 refine ⟨by rw [Bp];exact F.xl,by rw [Bp];exact F.yl,fun i=> ?_,fun i=> ?_,P9 hk' F.yc hf⟩
 ·rw [CY _ _ hx'];have:=F.x0 i;have:=Ai l i;omega
 ·rw [CY _ _ hk',CY _ _ hx',F.y i];omega
theorem Kx.one (F:Kx s P ms X Y) {k:Int} (h0:0≤k) (h1:k<(P:Int)) (hf:Y.getD k.toNat 0<s.co):Kx s P ms (Aq X k) (Aq Y k):=by
 have hy:k<(Y.length:Int):=by rw [F.yl];exact h1
 have:=Gx h0 hy k.toNat;rw [if_pos (by omega)] at this;refine F.put (l:=[k]) (fun z hz=>by simp at hz;omega) ?_;unfold FN;rw [if_neg (by omega)];rfl
theorem gL (hv:AP s=0) (hP:AQ s=(P:Int)) (hl:X.length=P) (h:∀i,0≤X.getD i 0∧X.getD i 0≤s.co):Be s X=0:=by
 have hK:=(A7 hv).2.1;unfold Be;rw [if_neg (by omega),if_neg];intro ha;obtain ⟨z,hz,hf⟩:=List.any_eq_true.1 ha;obtain ⟨i,hi,rfl⟩:=List.mem_iff_getElem.1 hz;have:=h i;have e:X.getD i 0=X[i]:=by simp [hi]
 rw [e] at this;unfold F8 at hf;simp at hf;omega
theorem Wa:∀{ms:List Gp},(∀g∈ms,BJ s g=0)→EJ s ms=0
 | [],_=>rfl
 | g::ms,h=>by
  unfold EJ;rw [if_neg (by have:=h g (by simp);omega)];exact Wa fun x hx=>h x (by simp [hx])
theorem QU.inb (M:QU s ms) (hv:AP s=0) (hP:AQ s=(P:Int)) {g:Gp} (hg:g∈ms):D8 P (AI g.wh g.kd):=by
 have hK:=(A7 hv).2.1;have B:JF s (List.replicate P 0) [g]:=⟨hv,by simp;omega,fun i=>by rw [Dl];omega,fun x hx=>by simp at hx;subst hx;exact Md (M.ml _ hg),by simp⟩;have:=B.inb (g:=g) (by simp);simpa using this
theorem Kx.full (F:Kx s P ms X Y) (M:QU s ms) (hv:AP s=0) (hP:AQ s=(P:Int)) (hs:X.sum=3*(s.me-ms.length)+2):Am s ⟨X,ms⟩=true:=by
 have h1:=gL hv hP F.xl fun i=>⟨(F.rg i).1,(F.rg i).2.1⟩
 have h2:By s ms=0:=by unfold By;rw [if_neg (by have:=M.ln;omega)];exact Wa M.ml
 have h3:Ag s ⟨X,ms⟩=0:=by
  unfold Ag;simp only;rw [if_neg (by omega),if_neg (by omega),if_neg (by omega),if_neg,if_neg (by omega),if_neg (by omega)];intro ha;obtain ⟨z,hz,hf⟩:=List.any_eq_true.1 ha;obtain ⟨i,hi,rfl⟩:=List.mem_iff_getElem.1 hz;have e:(Bi X ms).getD i 0=(Bi X ms)[i]:=by simp [hi]
  rw [FD ms X (fun g hg=>by rw [F.xl];exact M.inb hv hP hg),←F.y i] at e;have:=F.yc i;simp at hf;omega
 unfold Am;simp [h3,hs]
theorem Kx.zero (F:Kx s P ms X Y) (M:QU s ms) (hv:AP s=0) (hP:AQ s=(P:Int)):Kx s P ms (List.replicate P 0) (Bi (List.replicate P 0) ms):=by
 have hg:∀i,(Bi (List.replicate P 0) ms).getD i 0=B7 ms i:=fun i=>by
  rw [FD ms _ (fun g hg=>by simpa using M.inb hv hP hg),Dl];omega
 refine ⟨by simp,by rw [DV];simp,fun i=>by rw [Dl];omega,fun i=>by rw [hg,Dl];omega,fun i=> ?_⟩;rw [hg];have:=F.rg i;have:=F.y i;omega
theorem Kx.room (F:Kx s P ms X Y) (M:QU s ms) (hM:Jn s) (hP:AQ s=(P:Int)) (hc:∀i,i<P→s.co≤Y.getD i 0):3*(s.me-ms.length)+2≤X.sum:=by
 have V:=AU hM.ok;have hb:∀g∈ms,D8 (List.replicate P (0:Int)).length (AI g.wh g.kd):=fun g hg=>by simpa using M.inb hM.ok hP hg
 have h1:=Rw X (Bi (List.replicate P 0) ms) Y (by rw [F.xl,F.yl]) (by rw [DV,F.yl];simp) fun i=>by
  rw [FD ms _ hb,Dl,F.y i];omega
 have h2:=Qu ms _ hb;have h3:=YF Y s.co fun i hi=>hc i (by rw [←F.yl];exact hi)
 rw [F.yl] at h3;have h4:(List.replicate P (0:Int)).sum=0:=by simp
 have h5:=V.full;rw [hP] at h5;have h6:=V.pl;have h7:=V.me;have h8:=V.de;have h9:=hM.fl;have h10:=M.ln;have h11:s.pl=3∨s.pl=4:=by omega
 rcases h11 with e|e<;>rw [e] at h5<;>omega
end
structure UV (s:AL) (P:Nat) (ms gs:List Gp) (X Y:List Int):Prop where
 fi:Kx s P ms X Y
 mo:∀g∈ms,BJ s g=0
 go:∀g∈gs,Ak s g.wh g.kd=0∧(1≤g.wh∧g.wh≤2)∧g.op=false
 ln:((ms.length+gs.length:Nat):Int)≤s.me
 x:∀i,X.getD i 0=B7 gs i
 sm:X.sum=3*gs.length
theorem Gc {s:AL} {P:Nat} {g:Gp} (hv:AP s=0) (hP:AQ s=(P:Int)) (h:Ak s g.wh g.kd=0):D8 P (AI g.wh g.kd):=by
 have hK:=(A7 hv).2.1;have B:JF s (List.replicate P 0) [g]:=⟨hv,by simp;omega,fun i=>by rw [Dl];omega,fun x hx=>by simp at hx;subst hx;exact h,by simp⟩;simpa using B.inb (g:=g) (by simp)
section
variable {s:AL} {P:Nat} {ms gs:List Gp} {X Y:List Int}
theorem UV.start (hv:AP s=0):UV s P [] [] (List.replicate P 0) (List.replicate P 0):=by
 have V:=AU hv;have h1:=V.co;have h2:=V.me;exact ⟨Kx.start (by omega),fun g hg=>(by cases hg),fun g hg=>(by cases hg),by simp;omega,fun i=>Dl P i,by simp⟩
theorem UV.meld (b:UV s P ms gs X Y) (hv:AP s=0) (hP:AQ s=(P:Int)) {g:Gp} (hg:Ak s g.wh g.kd=0) (h3:g.wh≤3) (ho:g.wh≠3→g.op=true) (hl:((ms.length+gs.length:Nat):Int)<s.me) (hf:FN s.co Y (AI g.wh g.kd)=true):UV s P (ms++[g]) gs X (A5 Y (AI g.wh g.kd)):=by
 refine ⟨b.fi.meld (Gc hv hP hg) hf,fun x hx=> ?_,b.go,by simp only [List.length_append,List.length_cons,List.length_nil];omega,b.x,b.sm⟩;rcases List.mem_append.1 hx with hx|hx
 ·exact b.mo x hx
 ·simp at hx;subst hx;unfold BJ;rw [if_neg (by omega),if_neg (by simp [hg]),if_neg];rintro ⟨h4,h5⟩;rw [ho h4] at h5;cases h5
theorem UV.group (b:UV s P ms gs X Y) (hv:AP s=0) (hP:AQ s=(P:Int)) {g:Gp} (hg:Ak s g.wh g.kd=0) (h2:1≤g.wh∧g.wh≤2) (ho:g.op=false) (hl:((ms.length+gs.length:Nat):Int)<s.me) (hf:FN s.co Y (AI g.wh g.kd)=true):UV s P ms (gs++[g]) (A5 X (AI g.wh g.kd)) (A5 Y (AI g.wh g.kd)):=by
 have hi:=Gc hv hP hg;have hx:D8 X.length (AI g.wh g.kd):=by rw [b.fi.xl];exact hi
 have h3:(AI g.wh g.kd).length=3:=by
  have:g.wh=1∨g.wh=2:=by omega
  rcases this with e|e<;>rw [e]<;>rfl
 refine ⟨b.fi.put hi hf,b.mo,fun x hx=> ?_,by simp only [List.length_append,List.length_cons,List.length_nil];omega,fun i=> ?_,?_⟩
 ·rcases List.mem_append.1 hx with hx|hx
  ·exact b.go x hx
  ·simp at hx;subst hx;exact ⟨hg,h2,ho⟩
 ·rw [CY _ _ hx,b.x,IQ]
 ·rw [Jm _ _ hx,b.sm,h3];simp;omega
theorem UV.done (b:UV s P ms gs X Y) (hv:AP s=0) (hP:AQ s=(P:Int)) (hl:((ms.length+gs.length:Nat):Int)=s.me) {k:Int} (h0:0≤k) (h1:k<(P:Int)) (hf:FN s.co Y [k,k]=true) :
  Am s ⟨A5 X [k,k],ms⟩=true∧(∀i,(A5 X [k,k]).getD i 0=B7 (gs++[⟨4,k,false⟩]) i)∧(A5 X [k,k]).length=P:=by
 have hi:D8 P [k,k]:=fun z hz=>by simp at hz;omega
 have hx:D8 X.length [k,k]:=by rw [b.fi.xl];exact hi
 refine ⟨(b.fi.put hi hf).full ⟨b.mo,by omega⟩ hv hP ?_,fun i=> ?_,by rw [Bp];exact b.fi.xl⟩
 ·rw [Jm _ _ hx,b.sm];simp;omega
 ·rw [CY _ _ hx,b.x,IQ];rfl
theorem UV.ok (b:UV s P ms gs X Y):QU s ms:=⟨b.mo,by have:=b.ln;omega⟩
end
end Go.Proofs.YthblfhgofopcaaaGreat
