/-
  Parts of the proof: KOrd, KitC.
-/
import Derived.Test.YthblfhgofopcaaaGreatSH13
import Derived.Test.YthblfhgofopcaaaGreatSH14
import Derived.Test.YthblfhgofopcaaaGreatFO12
import Derived.Test.YthblfhgofopcaaaGreatFO13
set_option linter.all false
namespace Go.Proofs.YthblfhgofopcaaaGreat
open Go.RowKit
set_option maxRecDepth 100000
set_option maxHeartbeats 2000000
def Uv (a b:Gp):Bool:=decide (a.wh<b.wh) || (a.wh==b.wh&&decide (a.kd<b.kd))
def Nu (g:Gp) (l:List Gp):Nat→Nat
 | 0=>0
 | n+1=>match l[n]? with
  | some x=>if Uv g x=true then Nu g l n else n+1
  | none=>n+1
def U4 (l:List Gp) (g:Gp):List Gp:=l.take (Nu g l l.length)++g::l.drop (Nu g l l.length)
def IG (l:List Gp):List Gp:=l.foldl U4 []
theorem UL (g:Gp) (l:List Gp):∀n,Nu g l n≤n
 | 0=>Nat.le_refl _
 | n+1=>by
  unfold Nu;split
  ·split
   ·have:=UL g l n;omega
   ·omega
  ·omega
theorem V8 (l:List Gp) (g:Gp):(U4 l g).length=l.length+1:=by
 have:=UL g l l.length;simp [U4];omega
theorem O6 (l:List Gp) {i:Nat} (h:i<l.length):IG (l.take (i+1))=U4 (IG (l.take i)) l[i]:=by
 unfold IG;rw [List.take_succ_eq_append_getElem h,List.foldl_append];rfl
theorem Qg (l:List Gp):∀{i:Nat},i≤l.length→(IG (l.take i)).length=i
 | 0,_=>by simp [IG]
 | i+1,h=>by rw [O6 l (by omega),V8,Qg l (by omega)]
theorem Re (a b:Gp):AM Tryz.prog 114 [AZ a,AZ b] (B (Uv a b)):=by
 unfold Uv;refine zb Tryz.ntmps114 ?_;let tb:=Yq;let lv:=XV;(repeat' first|refine zQ ?_|refine zN ?_;intro K hC hK|refine zM ?_;try clear hK hC K|refine zC ?_ ?_<;>intro hb|refine zK ?_;intro Jo JU JC AH AJ AG)
 all_goals (refine Aa [] ?_ ?_<;>(first|exact AK|refine zE ?_);try simp_all)
theorem JI (l:List Gp) (h0:0<l.length) (h1:l.length≤1000000):AM Tryz.prog 49 [AX false l] (AX true (IG l)):=by
 have CB:=fun a b=>Re a b
 refine zb Tryz.ntmps49 ?_;let tb:=eX;let lv:=cO;(repeat' first|refine zQ ?_|refine zN ?_;intro K hC hK|refine zM ?_;try clear hK hC K|refine zC ?_ ?_<;>intro hb|refine zK ?_;intro Jo JU JC AH AJ AG)
 refine A8 (BY 3 500 0 3 (by rfl) (by rfl)) (α:=Nat×Nat) (fun a=>[(0,AX false l),(3, .rsl 0 a.2 0 (IG (l.take a.1)).length),(4,I a.1)]) (fun a=>[(0, .arr a.2 3 ((IG (l.take a.1)).map AZ))])
  (fun a=>l.length-a.1) (fun a=>a.1≤l.length) [(500,0)] [(2924,0)] 0 [0,3,4] 900 zg zg (0,0) (by simp) (by (have fa:=(And.intro @Dg.eq_1 (And.intro (And.intro @Ci.eq_1 @Ci.eq_2) (And.intro @IG.eq_1 (And.intro @List.take_zero.{0} @List.foldl_nil.{0,0}))));exact CZ)) ?_
 rintro ⟨i,g⟩ k1 J hcJ hJ;dsimp only at k1 hJ ⊢;by_cases hi:i<l.length
 ·have hs:=O6 l hi;have hn:=Qg l k1;obtain ⟨O,hO⟩:∃O,IG (l.take i)=O:=⟨_,rfl⟩;obtain ⟨z,hz⟩:∃z,l[i]=z:=⟨_,rfl⟩;rw [hO,hz] at hs;rw [hO] at hn ⊢;(repeat' first|refine zQ ?_|refine zN ?_;intro K hC hK|refine zM ?_;try clear hK hC K|refine zC ?_ ?_<;>intro hb|refine zK ?_;intro Jo JU JC AH AJ AG)
  refine At (α:=Nat) (fun p=>[(0,AX false l),(3, .rsl 0 g 0 O.length),(4,I i),(5,I p)]) (fun p=>[(0, .arr g 3 (O.map AZ))])
   (fun p=>p) (fun p=>p≤O.length∧Nu z O O.length=Nu z O p) [(0,0)] [(0,0)] 0 [0,3,4,5] 1900 zg zg O.length ⟨Nat.le_refl _,rfl⟩ (by exact CZ) ?_
  rintro p ⟨k2,k3⟩ J2 hcJ2 hJ2;have e14:min p O.length=p:=by omega
  have e16:List.take p (List.take p O)=O.take p:=by rw [List.take_take,Nat.min_self]
  have e18:List.take (O.length-p) (List.drop p O)=O.drop p:=List.take_of_length_le (by simp);have e19:List.take (p+1) (O.take p++[z])=O.take p++[z]:=List.take_of_length_le (by simp;omega);have e20:(((p:Nat):Int)-0).toNat=p:=by omega
  have hlen2:(O.take p++z::O.drop p).length=p+1+(O.length-p):=by simp;omega
  have hins:Nu z O O.length=p→U4 O z=O.take p++z::O.drop p:=fun h=>by unfold U4;rw [h]
  by_cases hp:0<p
  ·obtain ⟨y,hy⟩:∃y,O[p-1]=y:=⟨_,rfl⟩;have hc:((p-1:Nat):Int)=(p:Int)-1:=by omega
   have hstep:Nu z O p=if Uv z y=true then Nu z O (p-1) else p:=by
    obtain ⟨q,rfl⟩:∃q,p=q+1:=⟨p-1,by omega⟩;rw [Nu,List.getElem?_eq_getElem (by omega)];simp only [Nat.add_sub_cancel] at hy ⊢;rw [hy]
   by_cases hb2:Uv z y=true
   ·rw [if_pos hb2] at hstep;(have fa:=(And.intro hz (And.intro hy hb2));(repeat' first|refine zS (CB z y) ?_|refine zQ ?_|refine zN ?_;intro K hC hK|refine zM ?_;try clear hK hC K|refine zC ?_ ?_<;>intro hb|refine zK ?_;intro Jo JU JC AH AJ AG)<;>(try clear fa))
    exact hJ2 _ (p-1) (by omega) ⟨by omega,by rw [k3,hstep]⟩ (by (have fa:=hc;exact CZ))
   ·rw [if_neg hb2] at hstep;have hb3:Uv z y=false:=by simpa using hb2
    have hI:=hins (by rw [k3,hstep]);(have fa:=(And.intro hz (And.intro hy (And.intro hb3 (And.intro e14 (And.intro e16 (And.intro e18 (And.intro e19 (And.intro e20 Nat.min_self))))))));(repeat' first|refine zS (CB z y) ?_|refine zQ ?_|refine zN ?_;intro K hC hK|refine zM ?_;try clear hK hC K|refine zC ?_ ?_<;>intro hb|refine zK ?_;intro Jo JU JC AH AJ AG)<;>(try clear fa))
    refine hJ _ (i+1,_) (by dsimp only;omega) (by dsimp only;omega) (by (have fa:=(And.intro hs (And.intro hI (And.intro hlen2 (And.intro e19 (And.intro @List.append_assoc.{0} (And.intro @List.cons_append.{0} @List.nil_append.{0}))))));exact CZ))
  ·have hI:=hins (by rw [k3,show p=0 by omega];rfl);(have fa:=(And.intro hz (And.intro e14 (And.intro e16 (And.intro e18 (And.intro e19 (And.intro e20 Nat.min_self))))));(repeat' first|refine zS CB ?_|refine zQ ?_|refine zN ?_;intro K hC hK|refine zM ?_;try clear hK hC K|refine zC ?_ ?_<;>intro hb|refine zK ?_;intro Jo JU JC AH AJ AG)<;>(try clear fa))
   refine hJ _ (i+1,_) (by dsimp only;omega) (by dsimp only;omega) (by (have fa:=(And.intro hs (And.intro hI (And.intro hlen2 (And.intro e19 (And.intro @List.append_assoc.{0} (And.intro @List.cons_append.{0} @List.nil_append.{0}))))));exact CZ))
 ·have hT:l.take i=l:=List.take_of_length_le (by omega);(repeat' first|refine zQ ?_|refine zN ?_;intro K hC hK|refine zM ?_;try clear hK hC K|refine zC ?_ ?_<;>intro hb|refine zK ?_;intro Jo JU JC AH AJ AG)
  refine Aa [] ?_ ?_<;>(first|exact AK|refine zE ?_);rw [hT]
theorem dH (P:Nat):List.replicate P (AV.v (.int .i64 0))=(List.replicate P 0).map I:=by rw [List.map_replicate]
structure BR where
 ms:List Gp
 gl:List Gp
 X:List Int
 ok:Bool
 x:Int
structure u0 (s:AL) (P:Nat) (a:BR):Prop where
 fi:QU s a.ms∧∃Y,Kx s P a.ms a.X Y
 yes:a.ok=true→Am s ⟨a.X,a.ms⟩=true∧a.X.length=P∧∃gs k,a.gl=IG (gs++[⟨4,k,false⟩])∧(∀g∈gs,Ak s g.wh g.kd=0∧(1≤g.wh∧g.wh≤2)∧g.op=false)∧(0≤k∧k<(P:Int))∧((a.ms.length+gs.length:Nat):Int)=s.me∧∀i,a.X.getD i 0=B7 (gs++[⟨4,k,false⟩]) i
set_option maxHeartbeats 20000000 in
theorem UF (x:Int) (s:AL) (hM:Jn s):Hn Tryz.prog 46 [.ref 0 0 0 0,AO s] (Af x) (fun a:BR=> .tup [.agg [.rsl 1 0 0 (AQ s).toNat,AX false a.ms],AX false a.gl,B a.ok]) (fun a=>[(0, .arr 0 1 [U a.x]),(1, .arr 0 1 (a.X.map I))]) (u0 s (AQ s).toNat):=by
 have hv:=hM.ok;obtain ⟨p1,p2,p3,p4⟩:=A7 hv;have V:=AU hv;have hme:=V.me;have hco:=V.co;have CP:=Cm s (by have:=V.su3;omega);rw [p1] at CP;obtain ⟨P,hP⟩:∃P:Nat,AQ s=(P:Int):=⟨(AQ s).toNat,by omega⟩;have CM:=fun x' d=>fI x' s hv d
 rw [hP] at CP p3 p4 CM ⊢;rw [Int.toNat_natCast];clear V;unfold Hn Af;refine DX ?_;have b1:=Av (x:=x) (n:=2) (by omega) (by omega);have b2:=Av (x:=AR x) (n:=s.me+1) (by omega) (by omega);obtain ⟨d,hd,hd0,hd1⟩:∃d,IntKind.i64.wrap (BC x 2*BC (AR x) (s.me+1))=d∧0≤d∧d≤4:=by
  have:BC x 2=0∨BC x 2=1:=by omega
  rcases this with e|e<;>rw [e]
  ·exact ⟨0,by rw [Int.zero_mul];rfl,by omega,by omega⟩
  ·exact ⟨BC (AR x) (s.me+1),by rw [Int.one_mul];exact Al (by omega) (by omega),by omega,by omega⟩
 have hr:=dH P;have CB:=BI (AR x) (s.me+1) (by omega);refine FL 1 Tryz.ntmps46 ?_;let tb:=gO;let lv:=Zq;(have fa:=(And.intro @Af.eq_1 (And.intro hr hd));(repeat' first|refine zS CP ?_|refine QF (tg [0]) (BI _ 2 (by omega)) ?_|refine QF (tg [0]) CB ?_|refine zQ ?_|refine zN ?_;intro K hC hK|refine zM ?_;try clear hK hC K|refine zC ?_ ?_<;>intro hb|refine zK ?_;intro Jo JU JC AH AJ AG)<;>(try clear fa))
 generalize AR (AR x)=x0 at *;refine A8 ((Jf 192 0 2 500 0 3 1 (by rfl) (by rfl) (by rfl)).trans (BY 9 516 0 3 (by rfl) (by rfl))) (α:=Nat×List Gp×Nat×List Gp×Nat×List Int×List Int×Int)
  (fun a=>[(0, .ref 0 0 0 0),(3, .ref 1 0 0 0),(4, .ref 2 0 0 0),(7, .ref 3 0 0 0),(8, .rsl 5 0 0 P),(9, .rsl 7 a.2.2.2.2.1 0 a.2.2.2.1.length),(10,I d),(11,I a.1)])
  (fun a=>[(0, .arr 0 1 [U a.2.2.2.2.2.2.2]),(1, .arr 0 9 [AO s]),(2, .arr 0 2 [.agg [Bw,Bw]]),(3, .arr 0 2 [.agg [.rsl 4 0 0 P, .rsl 6 a.2.2.1 0 a.2.1.length]]),(4, .arr 0 1 (a.2.2.2.2.2.1.map I)),(5, .arr 0 1 (a.2.2.2.2.2.2.1.map I)),(6, .arr a.2.2.1 3 (a.2.1.map AZ)),(7, .arr a.2.2.2.2.1 3 (a.2.2.2.1.map AZ))])
  (fun a=>80-a.1) (fun a=>a.1≤80∧UV s P a.2.1 a.2.2.2.1 a.2.2.2.2.2.1 a.2.2.2.2.2.2.1) [(0,0),(64,1),(80,2),(192,3),(160,4),(256,5),(500,6),(516,7)] [(0,0),(1,1),(2,2),(3,3),(4,4),(5,5),(6,6),(7,7)] 0 [0,3,4,7,8,9,10,11] 900 zg zg (0,[],0,[],0,List.replicate P 0,List.replicate P 0,x0) ⟨by omega,UV.start hv⟩ (by (have fa:=(And.intro @I1.eq_1 (And.intro @Dg.eq_1 (And.intro (And.intro @Ci.eq_1 @Ci.eq_2) hr)));exact C8)) ?_
 ·rintro ⟨t,ms,g1,gs,g2,X,Y,x'⟩ ⟨k1,k2⟩ J hcJ hJ;dsimp only at k1 k2 hJ ⊢;have hxl:=k2.fi.xl;have hyl:=k2.fi.yl;have hln:=k2.ln;have hT1:Y.take P=Y:=List.take_of_length_le (by omega);have hT2:P≤Y.length:=by omega
  have hT3:X.take P=X:=List.take_of_length_le (by omega);have hT4:P≤X.length:=by omega
  by_cases ht:t<80
  ·by_cases hl:((ms.length+gs.length:Nat):Int)<s.me
   ·by_cases hdc:(ms.length:Int)<d
    ·have CM1:=CM x' true;have hdt:=decide_eq_true hdc;(repeat' first|refine zQ ?_|refine zN ?_;intro K hC hK|refine zM ?_;try clear hK hC K|refine zC ?_ ?_<;>intro hb|refine zK ?_;intro Jo JU JC AH AJ AG)
     (have fa:=(And.intro @Af.eq_1 hdt);refine vK (tg [0]) (CM1) ?_;clear AH AJ AG Jo JU JC;(try clear fa));intro xr hxr;obtain ⟨q1,q2,q3,q4⟩:=hxr;have CT:=H3 s xr.1;by_cases hg:Ak s xr.1.wh xr.1.kd=0
     ·have hte:BT s xr.1.wh xr.1.kd=AI xr.1.wh xr.1.kd:=by unfold BT;rw [if_pos ⟨hv,hg⟩]
      rw [hte] at CT;have hin:=Gc hv hP hg;have hlen:=Bt xr.1.wh xr.1.kd;have hpos:0<(AI xr.1.wh xr.1.kd).length:=by unfold AI;(repeat' split)<;>simp
      have CF:=Ik s Y (AI xr.1.wh xr.1.kd) (by rw [hyl];exact hin) (by omega) (fun i=>by have:=k2.fi.rg i;omega) (by omega);have hB:=k2.meld hv hP hg q1.2 (q4 rfl) hl;obtain ⟨L,hL⟩:∃L,AI xr.1.wh xr.1.kd=L:=⟨_,rfl⟩;have CPu:=GB 0 Y L (by rw [hyl,←hL];exact hin) (by rw [←hL];omega) (fun i=>by have:=k2.fi.rg i;omega) (by omega);have CPx:=GB 0 X L (by rw [hxl,←hL];exact hin) (by rw [←hL];omega) (fun i=>by have:=k2.fi.rg i;omega) (by omega);rw [hL] at CT CF hpos hB;rw [hyl] at CPu;rw [hxl] at CPx;by_cases hf:FN s.co Y L=true
      ·rw [hf] at CF;(have fa:=(And.intro hdt (And.intro hT1 (And.intro hT2 (And.intro hT3 hT4))));(repeat' first|refine zS CT ?_|refine zS CF ?_|refine QF (tg [5]) CPu ?_|refine QF (tg [4]) CPx ?_|refine zQ ?_|refine zN ?_;intro K hC hK|refine zM ?_;try clear hK hC K|refine zC ?_ ?_<;>intro hb|refine zK ?_;intro Jo JU JC AH AJ AG)<;>(try clear fa))
       refine hJ _ (t+1,ms++[xr.1],g1+1,gs,g2,X,A5 Y L,xr.2) (by dsimp only;omega) ⟨by dsimp only;omega,hB hf⟩ (by (have fa:= @List.length_append.{0};exact C8))
      ·have hf' :FN s.co Y L=false:=by simpa using hf
       rw [hf'] at CF;(have fa:=(And.intro hT1 hT2);(repeat' first|refine zS CT ?_|refine zS CF ?_|refine zQ ?_|refine zN ?_;intro K hC hK|refine zM ?_;try clear hK hC K|refine zC ?_ ?_<;>intro hb|refine zK ?_;intro Jo JU JC AH AJ AG)<;>(try clear fa))
       refine hJ _ (t+1,ms,g1,gs,g2,X,Y,xr.2) (by dsimp only;omega) ⟨by dsimp only;omega,k2⟩ (by exact C8)
     ·have hte:BT s xr.1.wh xr.1.kd=[]:=by unfold BT;rw [if_neg (by omega)]
      rw [hte] at CT;(repeat' first|refine zS CT ?_|refine zQ ?_|refine zN ?_;intro K hC hK|refine zM ?_;try clear hK hC K|refine zC ?_ ?_<;>intro hb|refine zK ?_;intro Jo JU JC AH AJ AG)
      refine hJ _ (t+1,ms,g1,gs,g2,X,Y,xr.2) (by dsimp only;omega) ⟨by dsimp only;omega,k2⟩ (by exact C8)
    ·have CM1:=CM x' false;have hdt:=decide_eq_false hdc;(repeat' first|refine zQ ?_|refine zN ?_;intro K hC hK|refine zM ?_;try clear hK hC K|refine zC ?_ ?_<;>intro hb|refine zK ?_;intro Jo JU JC AH AJ AG)
     (have fa:=(And.intro @Af.eq_1 hdt);refine vK (tg [0]) (CM1) ?_;clear AH AJ AG Jo JU JC;(try clear fa));intro xr hxr;obtain ⟨q1,q2,q3,q4⟩:=hxr;have CT:=H3 s xr.1;by_cases hg:Ak s xr.1.wh xr.1.kd=0
     ·have hte:BT s xr.1.wh xr.1.kd=AI xr.1.wh xr.1.kd:=by unfold BT;rw [if_pos ⟨hv,hg⟩]
      rw [hte] at CT;have hin:=Gc hv hP hg;have hlen:=Bt xr.1.wh xr.1.kd;have hpos:0<(AI xr.1.wh xr.1.kd).length:=by unfold AI;(repeat' split)<;>simp
      have CF:=Ik s Y (AI xr.1.wh xr.1.kd) (by rw [hyl];exact hin) (by omega) (fun i=>by have:=k2.fi.rg i;omega) (by omega);have hB:=k2.group hv hP hg ⟨q1.1,(q3 rfl).1⟩ (q3 rfl).2 hl;obtain ⟨L,hL⟩:∃L,AI xr.1.wh xr.1.kd=L:=⟨_,rfl⟩;have CPu:=GB 0 Y L (by rw [hyl,←hL];exact hin) (by rw [←hL];omega) (fun i=>by have:=k2.fi.rg i;omega) (by omega);have CPx:=GB 0 X L (by rw [hxl,←hL];exact hin) (by rw [←hL];omega) (fun i=>by have:=k2.fi.rg i;omega) (by omega);rw [hL] at CT CF hpos hB;rw [hyl] at CPu;rw [hxl] at CPx;by_cases hf:FN s.co Y L=true
      ·rw [hf] at CF;(have fa:=(And.intro hdt (And.intro hT1 (And.intro hT2 (And.intro hT3 hT4))));(repeat' first|refine zS CT ?_|refine zS CF ?_|refine QF (tg [5]) CPu ?_|refine QF (tg [4]) CPx ?_|refine zQ ?_|refine zN ?_;intro K hC hK|refine zM ?_;try clear hK hC K|refine zC ?_ ?_<;>intro hb|refine zK ?_;intro Jo JU JC AH AJ AG)<;>(try clear fa))
       refine hJ _ (t+1,ms,g1,gs++[xr.1],g2+1,A5 X L,A5 Y L,xr.2) (by dsimp only;omega) ⟨by dsimp only;omega,hB hf⟩ (by (have fa:= @List.length_append.{0};exact C8))
      ·have hf' :FN s.co Y L=false:=by simpa using hf
       rw [hf'] at CF;(have fa:=(And.intro hT1 hT2);(repeat' first|refine zS CT ?_|refine zS CF ?_|refine zQ ?_|refine zN ?_;intro K hC hK|refine zM ?_;try clear hK hC K|refine zC ?_ ?_<;>intro hb|refine zK ?_;intro Jo JU JC AH AJ AG)<;>(try clear fa))
       refine hJ _ (t+1,ms,g1,gs,g2,X,Y,xr.2) (by dsimp only;omega) ⟨by dsimp only;omega,k2⟩ (by exact C8)
     ·have hte:BT s xr.1.wh xr.1.kd=[]:=by unfold BT;rw [if_neg (by omega)]
      rw [hte] at CT;(repeat' first|refine zS CT ?_|refine zQ ?_|refine zN ?_;intro K hC hK|refine zM ?_;try clear hK hC K|refine zC ?_ ?_<;>intro hb|refine zK ?_;intro Jo JU JC AH AJ AG)
      refine hJ _ (t+1,ms,g1,gs,g2,X,Y,xr.2) (by dsimp only;omega) ⟨by dsimp only;omega,k2⟩ (by exact C8)
   ·(repeat' first|refine zQ ?_|refine zN ?_;intro K hC hK|refine zM ?_;try clear hK hC K|refine zC ?_ ?_<;>intro hb|refine zK ?_;intro Jo JU JC AH AJ AG)
    refine At (α:=Nat×Int) (fun a=>[(0, .ref 0 0 0 0),(3, .ref 1 0 0 0),(4, .ref 2 0 0 0),(7, .ref 3 0 0 0),(8, .rsl 5 0 0 P),(9, .rsl 7 g2 0 gs.length),(15,B (((ms.length:Int)+gs.length)==s.me)),(16,I a.1)])
     (fun a=>[(0, .arr 0 1 [U a.2]),(1, .arr 0 9 [AO s]),(2, .arr 0 2 [.agg [Bw,Bw]]),(3, .arr 0 2 [.agg [.rsl 4 0 0 P, .rsl 6 g1 0 ms.length]]),(4, .arr 0 1 (X.map I)),(5, .arr 0 1 (Y.map I)),(6, .arr g1 3 (ms.map AZ)),(7, .arr g2 3 (gs.map AZ))])
     (fun a=>40-a.1) (fun a=>a.1≤40) [(0,0),(1,1),(2,2),(3,3),(4,4),(5,5),(6,6),(7,7)] [(0,0),(1,1),(2,2),(3,3),(4,4),(5,5),(6,6),(7,7)] 0 [0,3,4,7,8,9,15,16] 1900 zg zg (0,x') (by dsimp only;omega) (by exact C8) ?_
    rintro ⟨u,x2⟩ j1 J2 hcJ2 hJ2;dsimp only at j1 hJ2 ⊢;by_cases hu:u<40
    ·by_cases hw:(ms.length:Int)+gs.length=s.me
     ·have hwt:((ms.length:Int)+gs.length==s.me)=true:=by simp [hw]
      rw [hwt] at hJ2 ⊢;have bb:=Av (x:=x2) (n:=P) (by omega) (by omega);have CB:=BI x2 P (by omega);obtain ⟨k,hk⟩:∃k,BC x2 P=k:=⟨_,rfl⟩;rw [hk] at bb;have hkk:D8 P [k,k]:=fun z hz=>by simp at hz;omega
      have CF:AM Tryz.prog 110 [AO s,AN false Y, .sl false 1 [I k,I k]] (B (FN s.co Y [k,k])):=Ik s Y [k,k] (by rw [hyl];exact hkk) (by simp) (fun i=>by have:=k2.fi.rg i;omega) (by omega);have CPu:D3 Tryz.prog 111 [.rsl 0 0 0 X.length, .sl false 1 [I k,I k]] [(0, .arr 0 1 (X.map I))] (.tup []) [(0, .arr 0 1 ((A5 X [k,k]).map I))]:=GB 0 X [k,k] (by rw [hxl];exact hkk) (by simp) (fun i=>by have:=k2.fi.rg i;omega) (by omega);rw [hxl] at CPu;by_cases hf:FN s.co Y [k,k]=true
      ·rw [hf] at CF;have hw' :((ms.length+gs.length:Nat):Int)=s.me:=by omega
       obtain ⟨d1,d2,d3⟩:=k2.done hv hP (by omega) bb.1 bb.2 hf;have hT5:List.take (gs.length+1) (gs.map AZ++[AV.agg [.v (.int .i64 4), .v (.int .i64 k), .v (.bool false)]])=gs.map AZ++[AV.agg [.v (.int .i64 4), .v (.int .i64 k), .v (.bool false)]]:=List.take_of_length_le (by simp);have hT6:gs.length+1≤(gs.map AZ++[AV.agg [.v (.int .i64 4), .v (.int .i64 k), .v (.bool false)]]).length:=by simp
       have CO:AM Tryz.prog 49 [.sl false 3 (gs.map AZ++[AV.agg [.v (.int .i64 4), .v (.int .i64 k), .v (.bool false)]])] (AX true (IG (gs++[⟨4,k,false⟩]))):=by
        have:=JI (gs++[⟨4,k,false⟩]) (by simp) (by simp;omega);rw [show AX false (gs++[⟨4,k,false⟩])= .sl false 3 (gs.map AZ++[AV.agg [.v (.int .i64 4), .v (.int .i64 k), .v (.bool false)]]) from by unfold AX;rw [List.map_append];rfl] at this;exact this
       (have fa:=(And.intro @Af.eq_1 (And.intro hk (And.intro hT1 (And.intro hT2 (And.intro hT5 (And.intro hT6 @Ay))))));(repeat' first|refine zS CP ?_|refine QF (tg [0]) CB ?_|refine zS CF ?_|refine zB (tg [4]) CPu ?_|refine zS CO ?_|refine zQ ?_|refine zN ?_;intro K hC hK|refine zM ?_;try clear hK hC K|refine zC ?_ ?_<;>intro hb|refine zK ?_;intro Jo JU JC AH AJ AG)<;>(try clear fa))
       refine Aa [(0,0),(4,1)] ?_ ?_<;>(first|exact AK|refine zE ?_);refine ⟨.tup [.agg [.rsl 1 0 0 P,AX false ms],AX false (IG (gs++[⟨4,k,false⟩])),B true],?_,⟨ms,IG (gs++[⟨4,k,false⟩]),A5 X [k,k],true,AR x2⟩,⟨⟨k2.ok,A5 Y [k,k],k2.fi.put hkk hf⟩,fun _=>⟨d1,d3,gs,k,rfl,k2.go,bb,hw',d2⟩⟩,rfl,rfl⟩;refine An.tup (.cons (An.agg (by (repeat first|exact EO.nil|refine GQ ?_))) (.cons (An.sl _ _ _) (.cons .rfl' .nil)))
      ·have hf' :FN s.co Y [k,k]=false:=by simpa using hf
       rw [hf'] at CF;(have fa:=(And.intro @Af.eq_1 (And.intro hk (And.intro hT1 (And.intro hT2 (And.intro @List.take_succ_cons.{0} @List.take_zero.{0})))));(repeat' first|refine zS CP ?_|refine QF (tg [0]) CB ?_|refine zS CF ?_|refine zQ ?_|refine zN ?_;intro K hC hK|refine zM ?_;try clear hK hC K|refine zC ?_ ?_<;>intro hb|refine zK ?_;intro Jo JU JC AH AJ AG)<;>(try clear fa))
       refine hJ2 _ (u+1,AR x2) (by dsimp only;omega) (by dsimp only;omega) (by exact C8)
     ·have hwt:((ms.length:Int)+gs.length==s.me)=false:=by simp [hw]
      rw [hwt] at hJ2 ⊢;(repeat' first|refine zQ ?_|refine zN ?_;intro K hC hK|refine zM ?_;try clear hK hC K|refine zC ?_ ?_<;>intro hb|refine zK ?_;intro Jo JU JC AH AJ AG)
      refine Aa [(0,0),(4,1)] ?_ ?_<;>(first|exact AK|refine zE ?_);refine ⟨.tup [.agg [.rsl 1 0 0 P,AX false ms],AX false [],B false],?_,⟨ms,[],X,false,x2⟩,⟨⟨k2.ok,Y,k2.fi⟩,fun h=>by cases h⟩,rfl,rfl⟩;refine An.tup (.cons (An.agg (by (repeat first|exact EO.nil|refine GQ ?_))) (.cons (An.nil _ _) (.cons .rfl' .nil)))
    ·(repeat' first|refine zQ ?_|refine zN ?_;intro K hC hK|refine zM ?_;try clear hK hC K|refine zC ?_ ?_<;>intro hb|refine zK ?_;intro Jo JU JC AH AJ AG)
     refine Aa [(0,0),(4,1)] ?_ ?_<;>(first|exact AK|refine zE ?_);refine ⟨.tup [.agg [.rsl 1 0 0 P,AX false ms],AX false [],B false],?_,⟨ms,[],X,false,x2⟩,⟨⟨k2.ok,Y,k2.fi⟩,fun h=>by cases h⟩,rfl,rfl⟩;refine An.tup (.cons (An.agg (by (repeat first|exact EO.nil|refine GQ ?_))) (.cons (An.nil _ _) (.cons .rfl' .nil)))
  ·(repeat' first|refine zQ ?_|refine zN ?_;intro K hC hK|refine zM ?_;try clear hK hC K|refine zC ?_ ?_<;>intro hb|refine zK ?_;intro Jo JU JC AH AJ AG)
   refine At (α:=Nat×Int) (fun a=>[(0, .ref 0 0 0 0),(3, .ref 1 0 0 0),(4, .ref 2 0 0 0),(7, .ref 3 0 0 0),(8, .rsl 5 0 0 P),(9, .rsl 7 g2 0 gs.length),(15,B (((ms.length:Int)+gs.length)==s.me)),(16,I a.1)])
    (fun a=>[(0, .arr 0 1 [U a.2]),(1, .arr 0 9 [AO s]),(2, .arr 0 2 [.agg [Bw,Bw]]),(3, .arr 0 2 [.agg [.rsl 4 0 0 P, .rsl 6 g1 0 ms.length]]),(4, .arr 0 1 (X.map I)),(5, .arr 0 1 (Y.map I)),(6, .arr g1 3 (ms.map AZ)),(7, .arr g2 3 (gs.map AZ))])
    (fun a=>40-a.1) (fun a=>a.1≤40) [(0,0),(1,1),(2,2),(3,3),(4,4),(5,5),(6,6),(7,7)] [(0,0),(1,1),(2,2),(3,3),(4,4),(5,5),(6,6),(7,7)] 0 [0,3,4,7,8,9,15,16] 1900 zg zg (0,x') (by dsimp only;omega) (by exact C8) ?_
   rintro ⟨u,x2⟩ j1 J2 hcJ2 hJ2;dsimp only at j1 hJ2 ⊢;by_cases hu:u<40
   ·by_cases hw:(ms.length:Int)+gs.length=s.me
    ·have hwt:((ms.length:Int)+gs.length==s.me)=true:=by simp [hw]
     rw [hwt] at hJ2 ⊢;have bb:=Av (x:=x2) (n:=P) (by omega) (by omega);have CB:=BI x2 P (by omega);obtain ⟨k,hk⟩:∃k,BC x2 P=k:=⟨_,rfl⟩;rw [hk] at bb;have hkk:D8 P [k,k]:=fun z hz=>by simp at hz;omega
     have CF:AM Tryz.prog 110 [AO s,AN false Y, .sl false 1 [I k,I k]] (B (FN s.co Y [k,k])):=Ik s Y [k,k] (by rw [hyl];exact hkk) (by simp) (fun i=>by have:=k2.fi.rg i;omega) (by omega);have CPu:D3 Tryz.prog 111 [.rsl 0 0 0 X.length, .sl false 1 [I k,I k]] [(0, .arr 0 1 (X.map I))] (.tup []) [(0, .arr 0 1 ((A5 X [k,k]).map I))]:=GB 0 X [k,k] (by rw [hxl];exact hkk) (by simp) (fun i=>by have:=k2.fi.rg i;omega) (by omega);rw [hxl] at CPu;by_cases hf:FN s.co Y [k,k]=true
     ·rw [hf] at CF;have hw' :((ms.length+gs.length:Nat):Int)=s.me:=by omega
      obtain ⟨d1,d2,d3⟩:=k2.done hv hP (by omega) bb.1 bb.2 hf;have hT5:List.take (gs.length+1) (gs.map AZ++[AV.agg [.v (.int .i64 4), .v (.int .i64 k), .v (.bool false)]])=gs.map AZ++[AV.agg [.v (.int .i64 4), .v (.int .i64 k), .v (.bool false)]]:=List.take_of_length_le (by simp);have hT6:gs.length+1≤(gs.map AZ++[AV.agg [.v (.int .i64 4), .v (.int .i64 k), .v (.bool false)]]).length:=by simp
      have CO:AM Tryz.prog 49 [.sl false 3 (gs.map AZ++[AV.agg [.v (.int .i64 4), .v (.int .i64 k), .v (.bool false)]])] (AX true (IG (gs++[⟨4,k,false⟩]))):=by
       have:=JI (gs++[⟨4,k,false⟩]) (by simp) (by simp;omega);rw [show AX false (gs++[⟨4,k,false⟩])= .sl false 3 (gs.map AZ++[AV.agg [.v (.int .i64 4), .v (.int .i64 k), .v (.bool false)]]) from by unfold AX;rw [List.map_append];rfl] at this;exact this
      (have fa:=(And.intro @Af.eq_1 (And.intro hk (And.intro hT1 (And.intro hT2 (And.intro hT5 (And.intro hT6 @Ay))))));(repeat' first|refine zS CP ?_|refine QF (tg [0]) CB ?_|refine zS CF ?_|refine zB (tg [4]) CPu ?_|refine zS CO ?_|refine zQ ?_|refine zN ?_;intro K hC hK|refine zM ?_;try clear hK hC K|refine zC ?_ ?_<;>intro hb|refine zK ?_;intro Jo JU JC AH AJ AG)<;>(try clear fa))
      refine Aa [(0,0),(4,1)] ?_ ?_<;>(first|exact AK|refine zE ?_);refine ⟨.tup [.agg [.rsl 1 0 0 P,AX false ms],AX false (IG (gs++[⟨4,k,false⟩])),B true],?_,⟨ms,IG (gs++[⟨4,k,false⟩]),A5 X [k,k],true,AR x2⟩,⟨⟨k2.ok,A5 Y [k,k],k2.fi.put hkk hf⟩,fun _=>⟨d1,d3,gs,k,rfl,k2.go,bb,hw',d2⟩⟩,rfl,rfl⟩;refine An.tup (.cons (An.agg (by (repeat first|exact EO.nil|refine GQ ?_))) (.cons (An.sl _ _ _) (.cons .rfl' .nil)))
     ·have hf' :FN s.co Y [k,k]=false:=by simpa using hf
      rw [hf'] at CF;(have fa:=(And.intro @Af.eq_1 (And.intro hk (And.intro hT1 (And.intro hT2 (And.intro @List.take_succ_cons.{0} @List.take_zero.{0})))));(repeat' first|refine zS CP ?_|refine QF (tg [0]) CB ?_|refine zS CF ?_|refine zQ ?_|refine zN ?_;intro K hC hK|refine zM ?_;try clear hK hC K|refine zC ?_ ?_<;>intro hb|refine zK ?_;intro Jo JU JC AH AJ AG)<;>(try clear fa))
      refine hJ2 _ (u+1,AR x2) (by dsimp only;omega) (by dsimp only;omega) (by exact C8)
    ·have hwt:((ms.length:Int)+gs.length==s.me)=false:=by simp [hw]
     rw [hwt] at hJ2 ⊢;(repeat' first|refine zQ ?_|refine zN ?_;intro K hC hK|refine zM ?_;try clear hK hC K|refine zC ?_ ?_<;>intro hb|refine zK ?_;intro Jo JU JC AH AJ AG)
     refine Aa [(0,0),(4,1)] ?_ ?_<;>(first|exact AK|refine zE ?_);refine ⟨.tup [.agg [.rsl 1 0 0 P,AX false ms],AX false [],B false],?_,⟨ms,[],X,false,x2⟩,⟨⟨k2.ok,Y,k2.fi⟩,fun h=>by cases h⟩,rfl,rfl⟩;refine An.tup (.cons (An.agg (by (repeat first|exact EO.nil|refine GQ ?_))) (.cons (An.nil _ _) (.cons .rfl' .nil)))
   ·(repeat' first|refine zQ ?_|refine zN ?_;intro K hC hK|refine zM ?_;try clear hK hC K|refine zC ?_ ?_<;>intro hb|refine zK ?_;intro Jo JU JC AH AJ AG)
    refine Aa [(0,0),(4,1)] ?_ ?_<;>(first|exact AK|refine zE ?_);refine ⟨.tup [.agg [.rsl 1 0 0 P,AX false ms],AX false [],B false],?_,⟨ms,[],X,false,x2⟩,⟨⟨k2.ok,Y,k2.fi⟩,fun h=>by cases h⟩,rfl,rfl⟩;refine An.tup (.cons (An.agg (by (repeat first|exact EO.nil|refine GQ ?_))) (.cons (An.nil _ _) (.cons .rfl' .nil)))
end Go.Proofs.YthblfhgofopcaaaGreat
