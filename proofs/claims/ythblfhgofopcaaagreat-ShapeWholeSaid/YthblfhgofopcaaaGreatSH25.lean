/-
  Parts of the proof: RefV, RefW, RefP, ConM.
-/
import Derived.Test.YthblfhgofopcaaaGreatSH13
import Derived.Test.YthblfhgofopcaaaGreatSH14
import Derived.Test.YthblfhgofopcaaaGreatSH23
import Derived.Test.YthblfhgofopcaaaGreatSH11
import Derived.Test.YthblfhgofopcaaaGreatSH15
import Derived.Test.YthblfhgofopcaaaGreatSH24
set_option linter.all false
namespace Go.Proofs.YthblfhgofopcaaaGreat
open Go.RowKit
set_option maxRecDepth 100000
set_option maxHeartbeats 2000000
theorem RA {X:List Int} {z:Int} (h0:0≤z) (h1:z<(X.length:Int)) (hX:∀i,-1000000000≤X.getD i 0∧X.getD i 0≤1000000000):∃hl:z.toNat<X.length,IntKind.i64.wrap (X[z.toNat]-1)=X.getD z.toNat 0-1∧(X.map I).set z.toNat (I (X.getD z.toNat 0-1))=(DY X z).map I:=by
 have hl:z.toNat<X.length:=by omega
 have e:X[z.toNat]=X.getD z.toNat 0:=by simp [hl]
 have:=hX z.toNat;exact ⟨hl,by rw [e];exact Al (by omega) (by omega),by rw [RM];rfl⟩
theorem Gs (X ks:List Int) {j:Nat} (h:j<ks.length):DY (Ah X (ks.take j)) ks[j]=Ah X (ks.take (j+1)):=by
 unfold Ah;rw [List.take_succ_eq_append_getElem h,List.foldl_append];rfl
theorem SE (X ks:List Int) {j:Nat} (h:j<ks.length):BX X (ks.drop j)=if (DY X ks[j]).getD ks[j].toNat 0<0 then none else BX (DY X ks[j]) (ks.drop (j+1)):=by
 rw [List.drop_eq_getElem_cons h,BX]
def Sb (X:List Int):Prop:=∀i,0≤X.getD i 0∧X.getD i 0≤1000
theorem Sb.dec {X:List Int} {z:Int} (h:Sb X) (h0:0≤z) (h1:z<(X.length:Int)) (hn:¬(DY X z).getD z.toNat 0<0):Sb (DY X z):=fun i=>by
 have:=h i;have e:=JZ h0 h1 i;by_cases hz:z=(i:Int)
 ·rw [if_pos hz] at e;have hi:z.toNat=i:=by omega
  rw [hi] at hn;omega
 ·rw [if_neg hz] at e;omega
def Ks (o:Option (List Int)):AV:=match o with
 | none=>Bw
 | some r=>AN true r
theorem Fh (bag ks:List Int) (hb:Sb bag) (hk:D8 bag.length ks) (hl:bag.length≤1000000) (hl2:ks.length≤1000000):AM Tryz.prog 146 [AN false bag,AN false ks] (Ks (BX bag ks)):=by
 refine zb Tryz.ntmps146 ?_;let tb:=aB;let lv:=Vr;(repeat' first | refine zQ ?_ | (refine zN ?_;intro K hC hK) | (refine zM ?_;try clear hK hC K) | (refine zC ?_ ?_<;>intro hb) | (refine zK ?_;intro Jo JU JC AH AJ AG))
 refine Ab ks.length (fun k σ=>∃X,X=Ah bag (ks.take k)∧Sb X∧X.length=bag.length∧BX bag ks=BX X (ks.drop k)∧σ=⟨900,[(1,AN false ks),(5, .rsl 0 1 0 bag.length),(6,I k)],[(0, .arr 1 1 (X.map I))]⟩) [(16,0)] [(0,0)] 0 [1,5,6] 900 zf zf ⟨bag,rfl,hb,rfl,rfl,by exact zV⟩ ?_;rintro k σ' hk' ⟨X,hX,hS,hXl,hR,rfl⟩ J hcJ hJ;by_cases h:k<ks.length
 ·obtain ⟨z,hz⟩:∃z,ks[k]=z:=⟨_,rfl⟩;have hin:=hk z (by rw [←hz];exact List.getElem_mem h);have hd:=SE X ks h;have ht:=Gs bag ks h;rw [←hX,hz] at ht;rw [hz] at hd;obtain ⟨d1,d2,d3⟩:=RA (X:=X) hin.1 (by omega) (fun i=>by have:=hS i;omega);have hnl:=Ee X z;obtain ⟨Y,hY⟩:∃Y,DY X z=Y:=⟨_,rfl⟩;have hYg:Y.getD z.toNat 0=X.getD z.toNat 0-1:=by rw [←hY,JZ (bag:=X) hin.1 (by omega),if_pos (by omega)]
  have hYS:¬(DY X z).getD z.toNat 0<0→Sb (DY X z):=fun hn=>hS.dec hin.1 (by omega) hn
  rw [hY] at hd ht d3 hnl hYS;have d4:z.toNat<Y.length:=by omega
  have d5:Y[z.toNat]=Y.getD z.toNat 0:=by simp [d4]
  (have fa:=(And.intro hz (And.intro d2 (And.intro d3 d5)));(repeat' first | refine zQ ?_ | (refine zN ?_;intro K hC hK) | (refine zM ?_;try clear hK hC K) | (refine zC ?_ ?_<;>intro hb) | (refine zK ?_;intro Jo JU JC AH AJ AG))<;>(try clear fa))
  ·refine Aa [] ?_ ?_<;>(first | exact AK | refine zE ?_);rw [hR,hd,if_pos (by omega)];rfl
  ·have hn:¬Y.getD z.toNat 0<0:=by omega
   refine hJ _ h ⟨Y,ht,hY ▸ hYS hn,by omega,?_,by exact zV⟩;rw [hR,hd,if_neg hn]
 ·(repeat' first | refine zQ ?_ | (refine zN ?_;intro K hC hK) | (refine zM ?_;try clear hK hC K) | (refine zC ?_ ?_<;>intro hb) | (refine zK ?_;intro Jo JU JC AH AJ AG))
  refine Aa [] ?_ ?_<;>(first | exact AK | refine zE ?_);have:ks.drop k=[]:=List.drop_eq_nil_of_le (by omega);rw [hR,this];simp [BX,Ks,←hXl]
def Sg (l:List Gp):Prop:=∀g∈l,-1000≤g.wh∧g.wh≤1000∧-1000≤g.kd∧g.kd≤1000
def EP:List Gp→List Gp→Int
 | a::l,b::m=>if a.wh≠b.wh then a.wh-b.wh else if a.kd≠b.kd then a.kd-b.kd else EP l m
 | l,m=>l.length-m.length
theorem JP:∀a b:List Gp,(EP a b<0↔BL a b<0)∧(EP a b=0↔BL a b=0)
 | [],[]=>by simp [EP,BL]
 | [],_::_=>by simp [EP,BL];omega
 | _::_,[]=>by simp [EP,BL];omega
 | a::l,b::m=>by
  have k:=A2 a b;have ih:=JP l m;unfold EP BL;by_cases h1:a.wh=b.wh
  ·rw [if_neg (by simpa using h1)];by_cases h2:a.kd=b.kd
   ·rw [if_neg (by simpa using h2),if_pos (by omega)];exact ih
   ·rw [if_pos h2,if_neg (by omega)];omega
  ·rw [if_pos h1,if_neg (by omega)];omega
theorem TQ (a b:List Gp) {k:Nat} (h1:k<a.length) (h2:k<b.length):EP (a.drop k) (b.drop k)=if a[k].wh≠b[k].wh then a[k].wh-b[k].wh else if a[k].kd≠b[k].kd then a[k].kd-b[k].kd else EP (a.drop (k+1)) (b.drop (k+1)):=by
 rw [List.drop_eq_getElem_cons h1,List.drop_eq_getElem_cons h2,EP]
theorem U8 (a b:List Gp) {k:Nat} (h:¬(k<a.length∧k<b.length)) (h1:k≤a.length) (h2:k≤b.length):EP (a.drop k) (b.drop k)=(a.length:Int)-b.length:=by
 have e:a.drop k=[]∨b.drop k=[]:=by
  by_cases h3:k<a.length
  ·exact .inr (List.drop_eq_nil_of_le (by omega))
  ·exact .inl (List.drop_eq_nil_of_le (by omega))
 have l1:(a.drop k).length=a.length-k:=List.length_drop;have l2:(b.drop k).length=b.length-k:=List.length_drop;rcases e with e | e
 ·rw [e] at l1 ⊢;cases hb:b.drop k with
  | nil=>rw [hb] at l2;simp [EP] at *;omega
  | cons y m=>rw [hb] at l2;simp [EP] at *;omega
 ·rw [e] at l2 ⊢;cases ha:a.drop k with
  | nil=>rw [ha] at l1;simp [EP] at *;omega
  | cons y m=>rw [ha] at l1;simp [EP] at *;omega
theorem JD (a b:List Gp) (ha:Sg a) (hb:Sg b) (h1:a.length≤1000000) (h2:b.length≤1000000):AM Tryz.prog 185 [AX false a,AX false b] (I (EP a b)):=by
 refine zb Tryz.ntmps185 ?_;let tb:=Z9;let lv:=WQ;(repeat' first | refine zQ ?_ | (refine zN ?_;intro K hC hK) | (refine zM ?_;try clear hK hC K) | (refine zC ?_ ?_<;>intro hb) | (refine zK ?_;intro Jo JU JC AH AJ AG))
 refine Ab (min a.length b.length) (fun k σ=>EP a b=EP (a.drop k) (b.drop k)∧σ=⟨900,[(0,AX false a),(1,AX false b),(5,I k)],[]⟩) [] [] 0 [0,1,5] 900 zf zf ⟨rfl,by exact zV⟩ ?_;rintro k σ' hk ⟨hR,rfl⟩ J hcJ hJ;by_cases h:k<a.length∧k<b.length
 ·obtain ⟨k1,k2⟩:=h;have hd:=TQ a b k1 k2;have g1:=ha a[k] (List.getElem_mem k1);have g2:=hb b[k] (List.getElem_mem k2);(repeat' first | refine zQ ?_ | (refine zN ?_;intro K hC hK) | (refine zM ?_;try clear hK hC K) | (refine zC ?_ ?_<;>intro hb) | (refine zK ?_;intro Jo JU JC AH AJ AG))
  ·refine Aa [] ?_ ?_<;>(first | exact AK | refine zE ?_);rw [hR,hd];((repeat' split)<;>first | rfl | (exfalso;omega) | (simp_all;done) | (simp_all;omega))
  ·refine Aa [] ?_ ?_<;>(first | exact AK | refine zE ?_);rw [hR,hd];((repeat' split)<;>first | rfl | (exfalso;omega) | (simp_all;done) | (simp_all;omega))
  ·refine hJ _ (by omega) ⟨?_,by exact zV⟩;rw [hR,hd];((repeat' split)<;>first | rfl | (exfalso;omega) | (simp_all;done) | (simp_all;omega))
 ·have hd:=U8 a b h (by omega) (by omega);(repeat' first | refine zQ ?_ | (refine zN ?_;intro K hC hK) | (refine zM ?_;try clear hK hC K) | (refine zC ?_ ?_<;>intro hb) | (refine zK ?_;intro Jo JU JC AH AJ AG))
  all_goals (refine Aa [] ?_ ?_<;>(first | exact AK | refine zE ?_);rw [hR,hd])
@[go_sem] theorem tE (f:Bool) (l:List (List Gp)):(∀u∈l.map (AX f),∀v∈u.cs,v.one=true)=True:=L7 (fun x v hv=>by simp [AV.cs] at hv;subst hv;rfl) l
theorem kS {α:Type} {l:List α} {k:Nat} (h:k<l.length):(l.drop k).take 1=[l[k]]:=by
 rw [List.drop_eq_getElem_cons h];rfl
theorem XO (l:List Gp) (g:Gp) {m:Nat} (h0:0<m) (h:m≤l.length):Lh l g m=if C6 g l[m-1]<0 then Lh l g (m-1) else m:=by
 obtain ⟨j,rfl⟩:∃j,m=j+1:=⟨m-1,by omega⟩;exact Jz l g (by omega)
theorem X8 (a b:Gp):BL [a] [b]=C6 a b:=by
 simp only [BL];split<;>omega
theorem H5 {α:Type} (l:List α) (g:α) {m:Nat} (hm:m≤l.length):min ((m:Int)-0).toNat l.length+1+min (l.length-m) (l.length-m)≤min (min ((m:Int)-0).toNat l.length+1) (min (min ((m:Int)-0).toNat l.length) (min ((m:Int)-0).toNat l.length)+1)+min (l.length-m) (l.length-m)∧
  List.take (min ((m:Int)-0).toNat l.length+1+min (l.length-m) (l.length-m)) (List.take (min ((m:Int)-0).toNat l.length+1) (List.take (min ((m:Int)-0).toNat l.length) (List.take ((m:Int)-0).toNat l)++[g])++List.take (l.length-m) (List.drop m l))=l.take m++g::l.drop m:=by
 have e1:((m:Int)-0).toNat=m:=by omega
 have e2:min m l.length=m:=by omega
 simp only [e1,e2,Nat.min_self];refine ⟨Nat.le_refl _,?_⟩;rw [List.take_take,Nat.min_self,List.take_of_length_le (l:=List.take m l++[g]) (by simp;omega),List.take_of_length_le (l:=List.drop m l) (by simp),List.take_of_length_le (by simp;omega)];simp
section
theorem cW {c:Cx} {h:HF} {x:AV} {y:Value} (k:AS c h x y):AS c h x.low y:=k.low rfl fun f b hs=>⟨hs.1,hs.2.1,by rcases hs.2.2 with h | h | ⟨_,h⟩<;>simp [h]⟩
theorem E3 {P:Program} {f:Nat} {ys:List AV} {res:AV} (h:Bb P f ys [] fun x hl=>x.low=res∧hl=[]):AM P f ys res:=by
 refine ⟨h.1,fun c vals hn hh hr=>(h.2 c vals hn hh hr).mono ?_⟩;rintro e w' ⟨v,x,hl,c',e1,e2,⟨rfl,rfl⟩,k1,k2,k3⟩;exact ⟨v,x.low,[],c',e1,e2,⟨rfl,rfl⟩,k1,k2,cW k3⟩
end
theorem Fg (l:List Gp) (g:Gp) (h:Sg l) (hg:Sg [g]) (hl:l.length≤1000000):AM Tryz.prog 165 [AX false l,AZ g] (AX true (BN l g)):=by
 refine zb Tryz.ntmps165 ?_;let tb:=Ys;let lv:=Vp;(repeat' first | refine zQ ?_ | (refine zN ?_;intro K hC hK) | (refine zM ?_;try clear hK hC K) | (refine zC ?_ ?_<;>intro hb) | (refine zK ?_;intro Jo JU JC AH AJ AG))
 refine DU (fun m σ=>m≤l.length∧Lh l g l.length=Lh l g m∧σ=⟨900,[(0,AX false l),(3, .ref 0 0 0 0),(5,I m)],[(0, .arr 0 3 [AZ g])]⟩) [(0,0)] [(0,0)] 0 [0,3,5] 900 zf zf ⟨l.length,Nat.le_refl _,rfl,by exact zV⟩ ?_;rintro m σ' ⟨hm,hR,rfl⟩ J hcJ hJ;have out:∀a:Nat,Lh l g l.length=a→l.take a++g::l.drop a=BN l g:=fun a ha=>by rw [BN,ha]
 by_cases h0:0<m
 ·have hsl:=kS (show m-1<l.length by omega);have hp:=XO l g h0 hm;have sx:Sg [l[m-1]]:=fun y hy=>by simp at hy;subst hy;exact h _ (List.getElem_mem _)
  have hs:=JP [g] [l[m-1]];rw [X8] at hs;have CC:=JD [g] [l[m-1]] hg sx (by simp) (by simp);obtain ⟨cv,hcv⟩:∃cv,EP [g] [l[m-1]]=cv:=⟨_,rfl⟩;rw [hcv] at CC hs;(have fa:=hsl;(repeat' first | refine zS CC ?_ | refine zQ ?_ | (refine zN ?_;intro K hC hK) | (refine zM ?_;try clear hK hC K) | (refine zC ?_ ?_<;>intro hb) | (refine zK ?_;intro Jo JU JC AH AJ AG))<;>(try clear fa))
  ·have w1:((m:Int)-1)=((m-1:Nat):Int):=by omega
   refine hJ (m-1) _ (by omega) ⟨by omega,?_,by rw [w1];exact zV⟩;rw [hR,hp,if_pos (by omega)]
  ·have hR:=out m (by rw [hR,hp,if_neg (by omega)]);refine Aa [] ?_ ?_<;>(first | exact AK | refine zE ?_);rw [if_pos (H5 l g hm).1,(H5 l g hm).2,hR]
 ·(repeat' first | refine zQ ?_ | (refine zN ?_;intro K hC hK) | (refine zM ?_;try clear hK hC K) | (refine zC ?_ ?_<;>intro hb) | (refine zK ?_;intro Jo JU JC AH AJ AG))
  have hR:=out m (by rw [hR];obtain rfl:m=0:=by omega
                     rfl)
  refine Aa [] ?_ ?_<;>(first | exact AK | refine zE ?_);rw [if_pos (H5 l g hm).1,(H5 l g hm).2,hR]
theorem XS (l:List (List Gp)) (g:List Gp) {m:Nat} (h0:0<m) (h:m≤l.length):JK l g m=if BL g l[m-1]<0 then JK l g (m-1) else m:=by
 obtain ⟨j,rfl⟩:∃j,m=j+1:=⟨m-1,by omega⟩;exact NI l g (by omega)
def Sl (l:List (List Gp)):Prop:=∀x∈l,Sg x∧x.length≤1000000
theorem KB (l:List (List Gp)) (g:List Gp) (h:Sl l) (hg:Sg g) (hgl:g.length≤1000000) (hl:l.length≤1000000000):AM Tryz.prog 164 [EG false l,AX false g] (EG false (E0 l g)):=by
 refine E3 ?_;refine zb Tryz.ntmps164 ?_;let tb:=cJ;let lv:=Yi;(repeat' first | refine zQ ?_ | (refine zN ?_;intro K hC hK) | (refine zM ?_;try clear hK hC K) | (refine zC ?_ ?_<;>intro hb) | (refine zK ?_;intro Jo JU JC AH AJ AG))
 refine DU (fun m σ=>m≤l.length∧JK l g l.length=JK l g m∧σ=⟨900,[(0,EG false l),(1,AX false g),(5,I m)],[]⟩) [] [] 0 [0,1,5] 900 zf zf ⟨l.length,Nat.le_refl _,rfl,by exact zV⟩ ?_;rintro m σ' ⟨hm,hR,rfl⟩ J hcJ hJ;have out:∀a:Nat,JK l g l.length=a→E0 l g=if 0<a∧BL g ((l[a-1]?).getD [])=0 then l else l.take a++g::l.drop a:=fun a ha=>by rw [E0,ha]
 by_cases h0:0<m
 ·have hp:=XS l g h0 hm;have hlt:m-1<l.length:=by omega
  have sx:=h l[m-1] (List.getElem_mem _);have hs:=JP g l[m-1];have hgd:(l[m-1]?).getD []=l[m-1]:=by simp [hlt]
  have CC:=JD g l[m-1] hg sx.1 hgl sx.2;obtain ⟨cv,hcv⟩:∃cv,EP g l[m-1]=cv:=⟨_,rfl⟩;rw [hcv] at CC hs;(repeat' first | refine zS CC ?_ | refine zQ ?_ | (refine zN ?_;intro K hC hK) | (refine zM ?_;try clear hK hC K) | (refine zC ?_ ?_<;>intro hb) | (refine zK ?_;intro Jo JU JC AH AJ AG))
  ·have w1:((m:Int)-1)=((m-1:Nat):Int):=by omega
   refine hJ (m-1) _ (by omega) ⟨by omega,?_,by rw [w1];exact zV⟩;rw [hR,hp,if_pos (by omega)]
  ·have hR:=out m (by rw [hR,hp,if_neg (by omega)]);rw [if_pos ⟨h0,by rw [hgd];omega⟩] at hR;refine Aa [] ?_ ?_<;>(first | exact AK | refine zE ?_);rw [hR]
  ·have hR:=out m (by rw [hR,hp,if_neg (by omega)]);rw [if_neg (by rw [hgd];omega)] at hR;refine Aa [] ?_ ?_<;>(first | exact AK | refine zE ?_);rw [if_pos (H5 l g hm).1,(H5 l g hm).2,←hR];simp only [AV.low,lowL_eGps]
 ·(repeat' first | refine zQ ?_ | (refine zN ?_;intro K hC hK) | (refine zM ?_;try clear hK hC K) | (refine zC ?_ ?_<;>intro hb) | (refine zK ?_;intro Jo JU JC AH AJ AG))
  have hR:=out m (by rw [hR];obtain rfl:m=0:=by omega
                     rfl)
  rw [if_neg (by omega)] at hR;refine Aa [] ?_ ?_<;>(first | exact AK | refine zE ?_);rw [if_pos (H5 l g hm).1,(H5 l g hm).2,←hR];simp only [AV.low,lowL_eGps]
theorem Ba {P:Program} {f:Nat} {ys:List AV} {res:AV} (h:Bb P f ys [] fun x hl=>An x res∧hl=[]):AM P f ys res:=by
 refine ⟨h.1,fun c vals hn hh hr=>(h.2 c vals hn hh hr).mono ?_⟩;rintro e w' ⟨v,x,hl,c',e1,e2,⟨hx,rfl⟩,k1,k2,k3⟩;exact ⟨v,res,[],c',e1,e2,⟨rfl,rfl⟩,k1,k2,hx _ _ _ k3⟩
def DH (bag:List Int):Nat→List Gp
 | 0=>[]
 | k+1=>DH bag k++List.replicate (bag.getD k 0).toNat (gp 5 k)
def Hp (bag:List Int):List Gp:=DH bag bag.length
theorem Ko {bag:List Int} (hb:Sb bag):∀k,(DH bag k).length≤1000*k
 | 0=>by simp [DH]
 | k+1=>by
  have h1:=Ko hb k;have h2:=hb k;rw [DH,List.length_append,List.length_replicate];omega
theorem Rz {α:Type} (x:α) (n:Nat):List.replicate n x++[x]=List.replicate (n+1) x:=by rw [List.replicate_succ']
theorem I0 (bag:List Int) (hb:Sb bag) (hl:bag.length≤1000):AM Tryz.prog 148 [AN false bag] (AX true (Hp bag)):=by
 refine zb Tryz.ntmps148 ?_;let tb:=bX;let lv:=Vm;(repeat' first | refine zQ ?_ | (refine zN ?_;intro K hC hK) | (refine zM ?_;try clear hK hC K) | (refine zC ?_ ?_<;>intro hb) | (refine zK ?_;intro Jo JU JC AH AJ AG))
 refine A8 (BY 3 500 0 3 (by rfl) (by rfl)) (α:=Nat×Nat) (fun x=>[(0,AN false bag),(3, .rsl 0 x.2 0 (DH bag x.1).length),(4,I x.1)]) (fun x=>[(0, .arr x.2 3 ((DH bag x.1).map AZ))]) (fun x=>bag.length-x.1) (fun x=>x.1≤bag.length) [(500,0)] [(0,0)] 0 [0,3,4] 900 zf zf (0,0) (Nat.zero_le _) (by (have fa:=(And.intro @Dg.eq_1 (And.intro (And.intro @Ci.eq_1 @Ci.eq_2) (And.intro @DH.eq_1 @DH.eq_2)));exact CZ)) ?_;rintro ⟨k,g⟩ hk J hcJ hJ;dsimp only at hk hJ ⊢;have hln:=Ko hb k;by_cases h:k<bag.length
 ·have hbk:=hb k;have hge:bag.getD k 0=bag[k]:=by simp [h]
  obtain ⟨L,hL⟩:∃L,DH bag k=L:=⟨_,rfl⟩;rw [hL] at hln ⊢;(repeat' first | refine zQ ?_ | (refine zN ?_;intro K hC hK) | (refine zM ?_;try clear hK hC K) | (refine zC ?_ ?_<;>intro hb) | (refine zK ?_;intro Jo JU JC AH AJ AG))
  refine At (α:=Nat×Nat) (fun x=>[(0,AN false bag),(3, .rsl 0 x.2 0 (L.length+x.1)),(4,I k),(5,I x.1)]) (fun x=>[(0, .arr x.2 3 ((L++List.replicate x.1 (gp 5 k)).map AZ))]) (fun x=>(bag.getD k 0).toNat-x.1) (fun x=>(x.1:Int)≤bag.getD k 0) [(0,0)] [(0,0)] 0 [0,3,4,5] 900 zf zf (0,g) (by simpa using hbk.1) (by (have fa:=(And.intro @List.replicate_zero.{0} @List.append_nil.{0});exact CZ)) ?_;rintro ⟨n,g2⟩ hn J2 hcJ2 hJ2;dsimp only at hn hJ2 ⊢;by_cases h2:(n:Int)<bag.getD k 0
  ·have hT:(L++List.replicate n (gp 5 (k:Int))).take (L.length+n)=L++List.replicate n (gp 5 (k:Int)):=List.take_of_length_le (by simp);have hx:AV.agg [I 5,I k,B false]=AZ (gp 5 (k:Int)):=rfl;(have fa:=(And.intro hT (And.intro @List.length_replicate.{0} hx));(repeat' first | refine zQ ?_ | (refine zN ?_;intro K hC hK) | (refine zM ?_;try clear hK hC K) | (refine zC ?_ ?_<;>intro hb) | (refine zK ?_;intro Jo JU JC AH AJ AG))<;>(try clear fa))
   refine hJ2 _ (n+1,g2+1) (by dsimp only;omega) (by dsimp only;omega) (by (have fa:=(And.intro hx (And.intro @List.append_assoc.{0} @Rz));exact CZ))
  ·(repeat' first | refine zQ ?_ | (refine zN ?_;intro K hC hK) | (refine zM ?_;try clear hK hC K) | (refine zC ?_ ?_<;>intro hb) | (refine zK ?_;intro Jo JU JC AH AJ AG))
   have hnn:n=(bag.getD k 0).toNat:=by omega
   refine hJ _ (k+1,g2) (by simp;omega) (by simp;omega) (by (have fa:=(And.intro (And.intro @DH.eq_1 @DH.eq_2) (And.intro hL (And.intro (Eq.symm hnn) (And.intro @List.length_append.{0} @List.length_replicate.{0}))));exact CZ))
 ·(repeat' first | refine zQ ?_ | (refine zN ?_;intro K hC hK) | (refine zM ?_;try clear hK hC K) | (refine zC ?_ ?_<;>intro hb) | (refine zK ?_;intro Jo JU JC AH AJ AG))
  obtain rfl:k=bag.length:=by omega
  refine Aa [] ?_ ?_<;>(first | exact AK | refine zE ?_);rfl
theorem Jq (l:List Gp):AM Tryz.prog 147 [AX false l] (EG false [l]):=by
 refine E3 ?_;refine zb Tryz.ntmps147 ?_;let tb:=Zw;let lv:=YK;(repeat' first | refine zQ ?_ | (refine zN ?_;intro K hC hK) | (refine zM ?_;try clear hK hC K) | (refine zC ?_ ?_<;>intro hb) | (refine zK ?_;intro Jo JU JC AH AJ AG))
 refine Aa [] ?_ ?_<;>(first | exact AK | refine zE ?_);simp [AV.low,lowL,lowL_eGp]
def FB (bag:List Int):Nat→List Gp
 | 0=>[]
 | k+1=>FB bag k++List.replicate (bag.getD k 0 / 2).toNat (gp 4 k)
def g7 (bag:List Int):List Gp:=FB bag bag.length
def Iy (ag:Bool) (z:Int):Bool:=decide (z % 2=1) || (decide (2<z)&& !ag)
def EW (bag:List Int) (ag:Bool):List (List Gp):=if bag.any (Iy ag)=true then [] else [g7 bag]
theorem NZ {bag:List Int} (hb:Sb bag):∀k,(FB bag k).length≤1000*k
 | 0=>by simp [FB]
 | k+1=>by
  have h1:=NZ hb k;have h2:=hb k;rw [FB,List.length_append,List.length_replicate];omega
theorem RF (bag:List Int) (ag:Bool) (hb:Sb bag) (hl:bag.length≤1000):AM Tryz.prog 143 [AN false bag,B ag] (EG false (EW bag ag)):=by
 refine Ba ?_;refine zb Tryz.ntmps143 ?_;let tb:=ZE;let lv:=WH;(repeat' first | refine zQ ?_ | (refine zN ?_;intro K hC hK) | (refine zM ?_;try clear hK hC K) | (refine zC ?_ ?_<;>intro hb) | (refine zK ?_;intro Jo JU JC AH AJ AG))
 have hF:=SB.frz hC hK [] 1 [5] 990 (BD (by decide) (by decide));clear hK;refine A8 (BY 5 500 0 3 (by rfl) (by rfl)) (α:=Nat×Nat) (fun x=>[(0,AN false bag),(1,B ag),(5, .rsl 0 x.2 0 (FB bag x.1).length),(6,I x.1)]) (fun x=>[(0, .arr x.2 3 ((FB bag x.1).map AZ))]) (fun x=>bag.length-x.1) (fun x=>x.1≤bag.length∧∀i,(h:i<bag.length)→i<x.1→Iy ag bag[i]=false) [(500,0)] [(0,0)] 0 [0,1,5,6] 900 zf zf (0,0) ⟨Nat.zero_le _,fun i _ h=>absurd h (Nat.not_lt_zero i)⟩ (by (have fa:=(And.intro @Dg.eq_1 (And.intro (And.intro @Ci.eq_1 @Ci.eq_2) (And.intro @FB.eq_1 @FB.eq_2)));exact CZ)) ?_;rintro ⟨k,g⟩ ⟨hk,hgood⟩ J hcJ hJ;dsimp only at hk hgood hJ ⊢;have hln:=NZ hb k;by_cases h:k<bag.length
 ·have hbk:=hb k;have hge:bag.getD k 0=bag[k]:=by simp [h]
  have htm:bag[k].tmod 2=bag[k] % 2:=Int.tmod_eq_emod_of_nonneg (by omega);obtain ⟨L,hL⟩:∃L,FB bag k=L:=⟨_,rfl⟩;rw [hL] at hln ⊢;by_cases hbad:Iy ag bag[k]=true
  ·have hF:EW bag ag=[]:=by unfold EW;rw [if_pos (EX h hbad)]
   rw [hF];unfold Iy at hbad;cases ag
   ·simp at hbad;(have fa:=htm;(repeat' first | refine zQ ?_ | (refine zN ?_;intro K hC hK) | (refine zM ?_;try clear hK hC K) | (refine zC ?_ ?_<;>intro hb) | (refine zK ?_;intro Jo JU JC AH AJ AG))<;>(try clear fa))
    all_goals (refine Aa [] ?_ ?_<;>(first | exact AK | refine zE ?_);exact An.nil _ _)
   ·simp at hbad;(have fa:=htm;(repeat' first | refine zQ ?_ | (refine zN ?_;intro K hC hK) | (refine zM ?_;try clear hK hC K) | (refine zC ?_ ?_<;>intro hb) | (refine zK ?_;intro Jo JU JC AH AJ AG))<;>(try clear fa))
    all_goals (refine Aa [] ?_ ?_<;>(first | exact AK | refine zE ?_);exact An.nil _ _)
  ·have hg:Iy ag bag[k]=false:=by simpa using hbad
   have hpar:bag[k] % 2=0∧(2<bag[k]→ag=true):=by
    unfold Iy at hg;cases ag<;>simp at hg<;>simp<;>omega
   have hnext:∀i,(h:i<bag.length)→i<k+1→Iy ag bag[i]=false:=fun i hi h2=>by
    by_cases e:i=k
    ·subst e;exact hg
    ·exact hgood i hi (by omega)
   clear hbad;(have fa:=htm;(repeat' first | refine zQ ?_ | (refine zN ?_;intro K hC hK) | (refine zM ?_;try clear hK hC K) | (refine zC ?_ ?_<;>intro hb) | (refine zK ?_;intro Jo JU JC AH AJ AG))<;>(try clear fa))
   all_goals first
    | (exfalso;simp_all;done)
    | skip
   all_goals
    refine At (α:=Nat×Nat) (fun x=>[(0,AN false bag),(1,B ag),(5, .rsl 0 x.2 0 (L.length+x.1)),(6,I k),(7,I (2*x.1:Nat))]) (fun x=>[(0, .arr x.2 3 ((L++List.replicate x.1 (gp 4 k)).map AZ))]) (fun x=>(bag.getD k 0).toNat-x.1) (fun x=>(2*x.1:Int)≤bag.getD k 0) [(0,0)] [(0,0)] 0 [0,1,5,6,7] 900 zf zf (0,g) (by dsimp only;omega) (by (have fa:=(And.intro @List.replicate_zero.{0} (And.intro @List.append_nil.{0} Nat.mul_zero));exact CZ)) ?_;rintro ⟨n,g2⟩ hn J2 hcJ2 hJ2;dsimp only at hn hJ2 ⊢;have c2:((2*n:Nat):Int)=2*(n:Int):=by omega
    by_cases h2:(2*n:Int)<bag.getD k 0
    ·have hT:(L++List.replicate n (gp 4 (k:Int))).take (L.length+n)=L++List.replicate n (gp 4 (k:Int)):=List.take_of_length_le (by simp);have hx:AV.agg [I 4,I k,B false]=AZ (gp 4 (k:Int)):=rfl;have hw:IntKind.i64.wrap (((2*n:Nat):Int)+2)=((2*(n+1):Nat):Int):=by rw [Al (by omega) (by omega)];omega
     (have fa:=(And.intro hT (And.intro @List.length_replicate.{0} (And.intro hx hw)));(repeat' first | refine zQ ?_ | (refine zN ?_;intro K hC hK) | (refine zM ?_;try clear hK hC K) | (refine zC ?_ ?_<;>intro hb) | (refine zK ?_;intro Jo JU JC AH AJ AG))<;>(try clear fa))
     refine hJ2 _ (n+1,g2+1) (by dsimp only;omega) (by dsimp only;omega) (by (have fa:=(And.intro hx (And.intro @List.append_assoc.{0} @Rz));exact CZ))
    ·(repeat' first | refine zQ ?_ | (refine zN ?_;intro K hC hK) | (refine zM ?_;try clear hK hC K) | (refine zC ?_ ?_<;>intro hb) | (refine zK ?_;intro Jo JU JC AH AJ AG))
     have hnn:n=(bag.getD k 0 / 2).toNat:=by omega
     refine hJ _ (k+1,g2) (by dsimp only;omega) ⟨by dsimp only;omega,hnext⟩ (by (have fa:=(And.intro (And.intro @FB.eq_1 @FB.eq_2) (And.intro hL (And.intro (Eq.symm hnn) (And.intro @List.length_append.{0} @List.length_replicate.{0}))));exact CZ))
 ·have hP:EW bag ag=[g7 bag]:=by unfold EW;rw [if_neg (by rw [D0 fun i hi=>hgood i hi (by omega)];simp)]
  obtain rfl:k=bag.length:=by omega
  obtain ⟨L,hL⟩:∃L,FB bag bag.length=L:=⟨_,rfl⟩;have hLe:g7 bag=L:=hL;rw [hL] at hln ⊢;(repeat' first | refine zQ ?_ | (refine zN ?_;intro K hC hK) | (refine zM ?_;try clear hK hC K) | (refine zC ?_ ?_<;>intro hb) | (refine zK ?_;intro Jo JU JC AH AJ AG))
  refine hF _ [(5,AX true L)] [] (by exact CZ) ?_;(repeat' first | refine zS (Jq L) ?_ | refine zQ ?_ | (refine zN ?_;intro K hC hK) | (refine zM ?_;try clear hK hC K) | (refine zC ?_ ?_<;>intro hb) | (refine zK ?_;intro Jo JU JC AH AJ AG))
  refine Aa [] ?_ ?_<;>(first | exact AK | refine zE ?_);rw [hP,hLe];exact vV
theorem YI (l:List Int) (x:Int) (hl:l.length≤1000000):AM Tryz.prog 149 [AN false l,I x] (B (l.any fun y=>y==x)):=by
 refine zb Tryz.ntmps149 ?_;let tb:=aP;let lv:=Xi;(repeat' first | refine zQ ?_ | (refine zN ?_;intro K hC hK) | (refine zM ?_;try clear hK hC K) | (refine zC ?_ ?_<;>intro hb) | (refine zK ?_;intro Jo JU JC AH AJ AG))
 refine Ab l.length (fun k σ=>(∀i,(h:i<l.length)→i<k→(l[i]==x)=false)∧σ=⟨900,[(0,AN false l),(1,I x),(5,I k)],[]⟩) [] [] 0 [0,1,5] 900 zf zf ⟨fun i _ h=>absurd h (Nat.not_lt_zero i),by exact zV⟩ ?_;rintro k σ' hk ⟨hR,rfl⟩ J hcJ hJ;by_cases h:k<l.length
 ·(repeat' first | refine zQ ?_ | (refine zN ?_;intro K hC hK) | (refine zM ?_;try clear hK hC K) | (refine zC ?_ ?_<;>intro hb) | (refine zK ?_;intro Jo JU JC AH AJ AG))
  ·refine Aa [] ?_ ?_<;>(first | exact AK | refine zE ?_);rw [EX h (by simp;assumption)]
  ·refine hJ _ h ⟨fun i hi h2=> ?_,by exact zV⟩;by_cases e:i=k
   ·subst e;simp;assumption
   ·exact hR i hi (by omega)
 ·(repeat' first | refine zQ ?_ | (refine zN ?_;intro K hC hK) | (refine zM ?_;try clear hK hC K) | (refine zC ?_ ?_<;>intro hb) | (refine zK ?_;intro Jo JU JC AH AJ AG))
  refine Aa [] ?_ ?_<;>(first | exact AK | refine zE ?_);rw [D0 fun i hi=>hR i hi (by omega)]
theorem Wi (g:Gp) (x:Int) (k0:0≤g.kd) (k1:g.kd≤1000):AM Tryz.prog 94 [AZ g,I x] (B ((AI g.wh g.kd).any fun y=>y==x)):=by
 have CT:=EQ g k0 k1;have CH:=YI (AI g.wh g.kd) x (by have:=Bt g.wh g.kd;omega);obtain ⟨tl,htl⟩:∃tl,AI g.wh g.kd=tl:=⟨_,rfl⟩;rw [htl] at CT CH ⊢;refine zb Tryz.ntmps94 ?_;let tb:=eJ;let lv:=aF;(repeat' first | refine zS CT ?_ | refine zS CH ?_ | refine zQ ?_ | (refine zN ?_;intro K hC hK) | (refine zM ?_;try clear hK hC K) | (refine zC ?_ ?_<;>intro hb) | (refine zK ?_;intro Jo JU JC AH AJ AG))
 refine Aa [] ?_ ?_<;>(first | exact AK | refine zE ?_)
end Go.Proofs.YthblfhgofopcaaaGreat

namespace Go.Proofs.YthblfhgofopcaaaGreat
def TX (ks:List Int) (k:Nat):Bool:=ks.any fun z=>z==(k:Int)
def ET (bag:List Int):Nat→List Gp
 | 0=>[]
 | k+1=>ET bag k++(if bag.getD k 0=1 then [gp 5 k] else if bag.getD k 0=2 then [gp 4 k] else [])
def cR (bag ks:List Int) (k:Nat):Bool:=(TX ks k==decide (0<bag.getD k 0))&&decide (bag.getD k 0≤2)
def Mc (bag ks:List Int):Bool:=(List.range bag.length).all (cR bag ks)
def I9 (bag ks:List Int):List (List Gp):=if Mc bag ks=true then [CX (ET bag bag.length)] else []
def Hk (bag ks:List Int):List (List Gp):=match BX bag ks with
 | none=>[]
 | some r=>if r.sum≠1 then [] else if ((CX (ks.map fun z=>if r.getD z.toNat 0=1 then gp 4 z else gp 5 z)).head?.map Gp.wh)=some 4 then [CX (ks.map fun z=>if r.getD z.toNat 0=1 then gp 4 z else gp 5 z)] else []
theorem Jh {ks:List Int} {k:Nat}:TX ks k=true↔(k:Int)∈ks:=by
 unfold TX;rw [List.any_eq_true];exact ⟨fun ⟨x,hx,he⟩=>by simp at he;subst he;exact hx,fun h=>⟨_,h,by simp⟩⟩
theorem IV {bag ks:List Int}:Mc bag ks=true↔∀k,k<bag.length→((k:Int)∈ks↔0<bag.getD k 0)∧bag.getD k 0≤2:=by
 unfold Mc cR;simp only [List.all_eq_true,List.mem_range,Bool.and_eq_true,decide_eq_true_eq,beq_iff_eq];constructor
 ·intro h k hk;refine ⟨?_,(h k hk).2⟩;have:=(h k hk).1;rw [←Jh,this,decide_eq_true_eq]
 ·intro h k hk;refine ⟨?_,(h k hk).2⟩;have:=(h k hk).1;rw [←Jh] at this;rw [Bool.eq_iff_iff,this,decide_eq_true_eq]
def GR (ks:List Int):Prop:=ks.Pairwise (· <·)
theorem MU:∀{l m:List Int},GR l→GR m→(∀x,x∈l↔x∈m)→l=m
 | [],[],_,_,_=>rfl
 | [],b::m,_,_,h=>absurd ((h b).2 (by simp)) (by simp)
 | a::l,[],_,_,h=>absurd ((h a).1 (by simp)) (by simp)
 | a::l,b::m,hl,hm,h=>by
  have hl' :=List.pairwise_cons.1 hl;have hm' :=List.pairwise_cons.1 hm;have hab:a=b:=by
   rcases List.mem_cons.1 ((h a).1 (by simp)) with e | h1
   ·exact e
   ·rcases List.mem_cons.1 ((h b).2 (by simp)) with e | h2
    ·exact e.symm
    ·have k1:=hm'.1 a h1;have k2:=hl'.1 b h2;omega
  subst hab;rw [MU hl'.2 hm'.2 fun x=>⟨fun hx=> ?_,fun hx=> ?_⟩]
  ·rcases List.mem_cons.1 ((h x).1 (by simp [hx])) with e | h1
   ·subst e;have:=hl'.1 x hx;omega
   ·exact h1
  ·rcases List.mem_cons.1 ((h x).2 (by simp [hx])) with e | h1
   ·subst e;have:=hm'.1 x hx;omega
   ·exact h1
def Ki:Nat→List Int
 | 0=>[]
 | k+1=>Ki k++[(k:Int)]
theorem MG {x:Int}:∀{n:Nat},x∈Ki n↔0≤x∧x<(n:Int)
 | 0=>by simp only [Ki,List.not_mem_nil,false_iff];omega
 | n+1=>by rw [Ki,List.mem_append,MG];simp;omega
theorem Oq:∀n,GR (Ki n)
 | 0=>List.Pairwise.nil
 | n+1=>by
  unfold GR;rw [Ki,List.pairwise_append];exact ⟨Oq n,by simp,fun a ha b hb=>by simp at hb;have:=MG.1 ha;omega⟩
theorem Rv {ks:List Int} (h:GR ks) (p:Int→Bool):GR (ks.filter p):=List.Pairwise.filter p h
theorem Pm {ks:List Int} {n:Nat} (h:GR ks) (hb:D8 n ks):ks=(Ki n).filter fun z=>ks.any fun y=>y==z:=by
 refine MU h (Rv (Oq n) _) fun x=> ?_
 rw [List.mem_filter,MG,List.any_eq_true];constructor
 ·intro hx;exact ⟨hb x hx,x,hx,by simp⟩
 ·rintro ⟨_,y,hy,he⟩;simp at he;subst he;exact hy
theorem Sn {ks:List Int} (h:GR ks):ks.Nodup:=h.imp fun {a b} hab=>by omega
theorem KT {ks:List Int} (h:GR ks) (i:Nat):Cz ks i=if (i:Int)∈ks then 1 else 0:=by
 unfold Cz;rw [(Sn h).count];split<;>rfl
theorem US (bag:List Int) (f:Int→Gp) (p:Int→Bool):∀n:Nat,(∀k:Nat,k<n→(if bag.getD k 0=1 then [gp 5 k] else if bag.getD k 0=2 then [gp 4 k] else [])=if p k=true then [f k] else [])→ET bag n=((Ki n).filter p).map f
 | 0,_=>rfl
 | n+1,h=>by
  rw [ET,US bag f p n (fun k hk=>h k (by omega)),h n (by omega),Ki,List.filter_append,List.map_append];congr 1;by_cases hp:p n=true
  ·simp [hp]
  ·simp [hp]
theorem IA:∀{l:List Int},(∀i,0≤l.getD i 0)→l.sum=0→∀i,l.getD i 0=0
 | [],_,_,i=>by simp
 | x::l,h0,h1,i=>by
  have hx:=h0 0;simp at hx;have h0' :∀i,0≤l.getD i 0:=fun i=>by have:=h0 (i+1);simpa using this
  have hs:=DQ h0';rw [List.sum_cons] at h1;cases i with
  | zero=>simp;omega
  | succ i=>have:=IA h0' (by omega) i;simpa using this
theorem cH {l:List Int} (h0:∀i,0≤l.getD i 0) (h1:l.sum=1):∃i,i<l.length∧l.getD i 0=1∧∀j,j≠i→l.getD j 0=0:=by
 induction l with
 | nil=>simp at h1
 | cons x l ih =>
  have hx:=h0 0;simp at hx;have h0' :∀i,0≤l.getD i 0:=fun i=>by have:=h0 (i+1);simpa using this
  have hs:=DQ h0';rw [List.sum_cons] at h1;by_cases hx1:x=0
  ·obtain ⟨i,hi,h2,h3⟩:=ih h0' (by omega);refine ⟨i+1,by simp;omega,by simpa using h2,fun j hj=> ?_⟩;cases j with
   | zero=>simp [hx1]
   | succ j=>have:=h3 j (by omega);simpa using this
  ·refine ⟨0,by simp,by simp;omega,fun j hj=> ?_⟩;cases j with
   | zero=>exact absurd rfl hj
   | succ j =>
    have hz:l.sum=0:=by omega
    have:=IA h0' hz j;simpa using this
theorem TG {l:List Gp} {g:Gp} (hg:g∈l) (h4:g.wh=4) (h:∀x∈l,x.wh=4∨x.wh=5):((CX l).head?.map Gp.wh)=some 4:=by
 have hp:=BV l;have hs:=HV l;cases he:CX l with
 | nil=>rw [he] at hp;have:=hp.length_eq;have h0:l=[]:=List.eq_nil_of_length_eq_zero this.symm;subst h0;cases hg
 | cons x r =>
  rw [he] at hp hs;have hx:=h x (hp.subset (by simp));simp only [List.head?_cons,Option.map_some,Option.some.injEq];have hgm:=hp.symm.subset hg;rcases List.mem_cons.1 hgm with e | e
  ·rw [←e];exact h4
  ·have:=(List.pairwise_cons.1 hs).1 g e;have:=A2 x g;omega
theorem cZ {bag ks:List Int} (hb:∀i,0≤bag.getD i 0) (hr:GR ks) (hk:D8 bag.length ks) (hs:bag.sum=ks.length+1):Hk bag ks=I9 bag ks:=by
 unfold Hk I9;rcases C5 ks bag hk hb with ⟨h1,h2⟩ | ⟨h1,i,h2⟩
 ·rw [h1];have hg:=BF ks bag hk;have hsum:=Ck ks bag hk;have hl:=Bn ks bag;obtain ⟨r,hR⟩:∃r,Ah bag ks=r:=⟨_,rfl⟩;rw [hR] at hg hsum hl ⊢;have hr0:∀i,0≤r.getD i 0:=fun i=>by rw [hg];have:=h2 i;omega
  obtain ⟨i,hi,hi1,hi0⟩:=cH hr0 (by omega);have hrs:r.sum=1:=by omega
  simp only [hrs,ne_eq,not_true_eq_false,if_false];have hv:∀j,bag.getD j 0=(if (j:Int)∈ks then 1 else 0)+if j=i then 1 else 0:=fun j=>by
   have:=hg j;rw [KT hr] at this;by_cases hj:j=i
   ·subst hj;rw [if_pos rfl];omega
   ·rw [if_neg hj];have:=hi0 j hj;omega
  by_cases hm:(i:Int)∈ks
  ·have hG:Mc bag ks=true:=IV.2 fun k _=>by
    rw [hv k];by_cases hki:k=i
    ·subst hki;simp [hm]
    ·by_cases hkm:(k:Int)∈ks<;>simp [hki,hkm]
   rw [if_pos hG];have hL:(ks.map fun z=>if r.getD z.toNat 0=1 then gp 4 z else gp 5 z)=ET bag bag.length:=by
    rw [US bag (fun z=>if r.getD z.toNat 0=1 then gp 4 z else gp 5 z) (fun z=>ks.any fun y=>y==z) bag.length ?_]
    ·congr 1;exact Pm hr hk
    ·intro k hkb;have hP:(ks.any fun y=>y==(k:Int))=TX ks k:=rfl;rw [hP];simp only [Int.toNat_natCast];rw [hv k];by_cases hkm:(k:Int)∈ks
     ·rw [if_pos hkm,if_pos (Jh.2 hkm)];by_cases hki:k=i
      ·subst hki;rw [if_pos hi1];simp
      ·rw [if_neg (show ¬r.getD k 0=1 by rw [hi0 k hki];omega)];simp [hki]
     ·have:¬k=i:=fun e=>hkm (e ▸ hm)
      rw [if_neg hkm,if_neg (fun h=>hkm (Jh.1 h))];simp [this]
   rw [hL];rw [if_pos];refine TG (g:=gp 4 i) ?_ rfl fun x hx=> ?_
   ·rw [←hL,List.mem_map];exact ⟨i,hm,by simp only [Int.toNat_natCast];rw [if_pos hi1]⟩
   ·rw [←hL,List.mem_map] at hx;obtain ⟨z,_,rfl⟩:=hx;split<;>simp
  ·have hG:¬Mc bag ks=true:=fun h=>by
    have:=(IV.1 h i (by omega)).1;rw [hv i] at this;simp [hm] at this
   rw [if_neg hG,if_neg];intro hh;have hp:=BV (ks.map fun z=>if r.getD z.toNat 0=1 then gp 4 z else gp 5 z);cases he:CX (ks.map fun z=>if r.getD z.toNat 0=1 then gp 4 z else gp 5 z) with
   | nil=>rw [he] at hh;simp at hh
   | cons x t =>
    rw [he] at hh hp;simp at hh;have hx:=hp.subset (List.mem_cons_self);rw [List.mem_map] at hx;obtain ⟨z,hz,rfl⟩:=hx;have hzb:=hk z hz;have hz0:r.getD z.toNat 0=0:=hi0 _ fun e=>hm (by rw [←e,Int.toNat_of_nonneg hzb.1];exact hz)
    rw [if_neg (by omega)] at hh;simp at hh
 ·rw [h1];simp only;rw [if_neg];intro h;have hc:=KT hr i;by_cases hm:(i:Int)∈ks
  ·have hb2:=hk _ hm;have:=(IV.1 h i (by omega)).1.1 hm;rw [if_pos hm] at hc;omega
  ·have:=hb i;rw [if_neg hm] at hc;omega
def Dm (ks:List Int) (n:Nat):List Int:=A5 (List.replicate n 0) ks
def Ni (bag ks:List Int):List (List Gp):=if Dm ks bag.length=bag then [Hp bag] else []
def Rn (bag ks:List Int):List (List Gp):=match BX bag ks with
 | none=>[]
 | some _=>[Hp bag]
theorem Do (ks:List Int) (n:Nat):(Dm ks n).length=n:=by rw [Dm,Bp];simp
theorem Gu {ks:List Int} {n:Nat} (hk:D8 n ks) (i:Nat):(Dm ks n).getD i 0=Cz ks i:=by
 rw [Dm,CY _ _ (by simpa using hk)];have:(List.replicate n (0:Int)).getD i 0=0:=by
  rw [List.getD_eq_getElem?_getD,List.getElem?_replicate];split<;>rfl
 omega
theorem Ue {a b:List Int} (hl:a.length=b.length) (h:∀i,a.getD i 0=b.getD i 0):a=b:=by
 refine List.ext_getElem hl fun i h1 h2=> ?_
 have:=h i;simpa [List.getD_eq_getElem?_getD,h1,h2] using this
theorem bF {bag ks:List Int} (hb:∀i,0≤bag.getD i 0) (hk:D8 bag.length ks) (hs:bag.sum=ks.length):Rn bag ks=Ni bag ks:=by
 unfold Rn Ni;rcases C5 ks bag hk hb with ⟨h1,h2⟩ | ⟨h1,i,h2⟩
 ·rw [h1];have hg:=BF ks bag hk;have hz:=IA (l:=Ah bag ks) (fun i=>by rw [hg];have:=h2 i;omega) (by rw [Ck ks bag hk];omega);simp only;rw [if_pos];refine Ue (Do _ _) fun i=> ?_
  have:=hz i;rw [Gu hk,←Int.sub_eq_zero,←Int.neg_inj];rw [hg] at this;omega
 ·rw [h1];simp only;rw [if_neg];intro h;have:=Gu hk i;rw [h] at this;omega
end Go.Proofs.YthblfhgofopcaaaGreat
