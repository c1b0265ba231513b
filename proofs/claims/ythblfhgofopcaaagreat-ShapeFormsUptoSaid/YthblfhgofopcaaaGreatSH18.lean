/-
  Parts of the proof: EncW.
-/
import Derived.Test.YthblfhgofopcaaaGreatSH13
import Derived.Test.YthblfhgofopcaaaGreatSH14
import Derived.Test.YthblfhgofopcaaaGreatSH17
import Derived.Test.YthblfhgofopcaaaGreatSH15
set_option linter.all false
namespace Go.Proofs.YthblfhgofopcaaaGreat
open Go.RowKit
set_option maxRecDepth 100000
set_option maxHeartbeats 2000000
theorem JN {P:Program} {f:Nat} {ys:List AV} {x y:Value} (hE:qX P f) (h:∀(c:Cx) (vals:Array Value),QX c (fun _=> .nil) ys vals→Calls P f vals c.w fun e w' =>e= .returned (.tuple #[x,y])∧Aw c.w w'):AM P f ys (.tup [.v x, .v y]):=by
 refine ⟨hE,fun c vals _ _ hx=>(h c vals hx).mono ?_⟩;rintro e w' ⟨rfl,g⟩;refine ⟨_,_,[],{ c with w:=w' },rfl,rfl,⟨rfl,rfl⟩,Bj.grow g (.inl rfl),⟨(fun r g sz es hr=>by cases hr),(fun r g sz es hr=>by cases hr),(fun r r1 g g1 sz sz1 es es1 hr=>by cases hr)⟩, .tup _ _ rfl fun i u v hu hv=> ?_⟩;match i,hu,hv with
 | 0,hu,hv=>simp at hu hv;subst hu hv;exact .v _
 | 1,hu,hv=>simp at hu hv;subst hu hv;exact .v _
 | i+2,hu,hv=>simp at hu
theorem JQ (s:AL) (k:Int):AM Tryz.prog 126 [AO s,I k] (.tup [I (Bm s k).1,I (Bm s k).2]):=JN ⟨_,_,Tryz.func126,rfl,rfl⟩ fun c vals hx=>by
 obtain ⟨v,v',rfl,k1,k2⟩:=IJ hx;have:=As k2;subst this;exact VZ v s k c.w (Pj k1)
theorem Nn {s:AL} (h3:s.su.length≤3) (hs:∀z∈s.su,1≤z∧z≤9) (k:Nat):0≤Aj (s.su.take k)∧Aj (s.su.take k)≤27:=by
 have:=Ek (l:=s.su.take k) fun z hz=>hs z (List.mem_of_mem_take hz)
 rw [List.length_take] at this;omega
theorem Mk (s:AL) (h3:s.su.length≤3) (hs:∀z∈s.su,1≤z∧z≤9) (hw:0≤s.wi∧s.wi≤4) (hd:0≤s.dr∧s.dr≤3):AM Tryz.prog 130 [AO s] (I (AQ s)):=by
 refine zb Tryz.ntmps130 ?_;let tb:=bZ;let lv:=Xv;(repeat' first | refine zQ ?_ | (refine zN ?_;intro K hC hK) | (refine zM ?_;try clear hK hC K) | (refine zC ?_ ?_<;>intro hb) | (refine zK ?_;intro Jo JU JC AH AJ AG))
 refine Ab s.su.length (fun k σ=>σ=⟨900,[(1, .ref 0 0 0 0),(3,I (s.wi+s.dr+Aj (s.su.take k))),(4,I k)],[(0, .arr 0 9 [AO s])]⟩) [(0,0)] [(0,0)] 0 [1,3,4] 900 zf zf (by (have fa:=(And.intro @List.take_zero.{0} (And.intro Aj.eq_1 Int.add_zero));exact zV)) ?_;rintro k σ' hk rfl J hcJ hJ;by_cases h:k<s.su.length
 ·have hz:=hs _ (List.getElem_mem h);have hst:s.wi+s.dr+Aj (s.su.take (k+1))=s.wi+s.dr+Aj (s.su.take k)+s.su[k]:=by rw [Fi s.su h];omega
  have hS:=Nn h3 hs k;(have fa:= @AO.eq_1;(repeat' first | refine zQ ?_ | (refine zN ?_;intro K hC hK) | (refine zM ?_;try clear hK hC K) | (refine zC ?_ ?_<;>intro hb) | (refine zK ?_;intro Jo JU JC AH AJ AG))<;>(try clear fa))
  exact hJ _ h (by (have fa:=hst;exact zV))
 ·obtain rfl:k=s.su.length:=by omega
  (have fa:= @AO.eq_1;(repeat' first | refine zQ ?_ | (refine zN ?_;intro K hC hK) | (refine zM ?_;try clear hK hC K) | (refine zC ?_ ?_<;>intro hb) | (refine zK ?_;intro Jo JU JC AH AJ AG))<;>(try clear fa))
  refine Aa [] ?_ ?_<;>(have fa:=(And.intro @List.take_length.{0} @AQ.eq_1);first | exact AK | (refine zE ?_;try clear fa))
theorem DA (n lo hi:Int):AM Tryz.prog 129 [I n,I lo,I hi] (B (decide (lo≤n)&&decide (n≤hi))):=by
 refine zb Tryz.ntmps129 ?_;let tb:=Zm;let lv:=XB;(repeat' first | refine zQ ?_ | (refine zN ?_;intro K hC hK) | (refine zM ?_;try clear hK hC K) | (refine zC ?_ ?_<;>intro hb) | (refine zK ?_;intro Jo JU JC AH AJ AG))
 all_goals (refine Aa [] ?_ ?_<;>(first | exact AK | refine zE ?_);simp;try omega)
theorem Wb {p:Int→Bool} {l:List Int} {k:Nat} (h:k<l.length):(l.drop k).any p=(p l[k] || (l.drop (k+1)).any p):=by
 rw [List.drop_eq_getElem_cons h,List.any_cons]
theorem g9 (z:Int):(decide (1≤z)&&decide (z≤9))= !HD z:=by
 unfold HD;rw [Bool.eq_iff_iff];simp
theorem Xw (p:Int) {zs:List Int} {k:Nat} (h:k<zs.length):Bl p (MR zs k) (zs.drop k)=if zs[k]<0∨p≤zs[k] then 2 else if 0<k∧zs[k]≤zs[k-1] then 11 else Bl p (MR zs (k+1)) (zs.drop (k+1)):=by
 rw [LY h,MK h];cases k with
 | zero=>rw [Sd];split<;>simp;omega
 | succ j=>rw [MK (by omega)];simp
set_option maxHeartbeats 8000000 in
theorem U0 (s:AL) (hr:s.re.length≤9223372036854775807):AM Tryz.prog 79 [AO s] (I (AP s)):=by
 by_cases c1:s.pl<3∨4<s.pl
 ·have hU:AP s=2:=by unfold AP;rw [if_pos c1]
  rw [hU];have C1:=DA s.pl 3 4;rw [show (decide (3≤s.pl)&&decide (s.pl≤4))=false by simp;omega] at C1;refine zb Tryz.ntmps79 ?_;let tb:=S3;let lv:=PI;(repeat' first | refine zS C1 ?_ | refine zQ ?_ | (refine zN ?_;intro K hC hK) | (refine zM ?_;try clear hK hC K) | (refine zC ?_ ?_<;>intro hb) | (refine zK ?_;intro Jo JU JC AH AJ AG))
  refine Aa [] ?_ ?_<;>(first | exact AK | refine zE ?_)
 ·have C1:=DA s.pl 3 4;rw [show (decide (3≤s.pl)&&decide (s.pl≤4))=true by simp;omega] at C1;by_cases c2:3<s.su.length
  ·have hU:AP s=8:=by unfold AP;rw [if_neg c1,if_pos c2]
   rw [hU];refine zb Tryz.ntmps79 ?_;let tb:=S3;let lv:=PI;(repeat' first | refine zS C1 ?_ | refine zQ ?_ | (refine zN ?_;intro K hC hK) | (refine zM ?_;try clear hK hC K) | (refine zC ?_ ?_<;>intro hb) | (refine zK ?_;intro Jo JU JC AH AJ AG))
   refine Aa [] ?_ ?_<;>(first | exact AK | refine zE ?_)
  ·have h3:s.su.length≤3:=by omega
   have C2:∀z,AM Tryz.prog 129 [I z,I 1,I 9] (B (!HD z)):=fun z=>by rw [←g9];exact DA z 1 9
   have hU:AP s=if s.su.any HD=true then 2 else if GD s=true then 2 else if AQ s=0 then 6 else if Bl (AQ s) (-1) s.re≠0 then Bl (AQ s) (-1) s.re else if AQ s*s.co+s.fl≤s.pl*(3*s.me+1)+s.de then 6 else 0:=by unfold AP;rw [if_neg c1,if_neg c2]
   refine zb Tryz.ntmps79 ?_;let tb:=S3;let lv:=PI;(repeat' first | refine zS C1 ?_ | refine zQ ?_ | (refine zN ?_;intro K hC hK) | (refine zM ?_;try clear hK hC K) | (refine zC ?_ ?_<;>intro hb) | (refine zK ?_;intro Jo JU JC AH AJ AG))
   refine Ab s.su.length (fun k σ=>s.su.any HD=(s.su.drop k).any HD∧σ=⟨900,[(1, .ref 0 0 0 0),(3,I k)],[(0, .arr 0 9 [AO s])]⟩) [(0,0)] [(0,0)] 0 [1,3] 900 zf zf ⟨rfl,by exact zV⟩ ?_;rintro k σ' hk ⟨hR,rfl⟩ J hcJ hJ;by_cases h:k<s.su.length
   ·have hd:=Wb (p:=HD) h;have C3:=C2 s.su[k];obtain ⟨z,hzk⟩:∃z,s.su[k]=z:=⟨_,rfl⟩;rw [hzk] at hd C3;cases f:HD z with
    | true =>
     rw [f] at C3 hd;(have fa:=hzk;(repeat' first | refine zS C3 ?_ | refine zQ ?_ | (refine zN ?_;intro K hC hK) | (refine zM ?_;try clear hK hC K) | (refine zC ?_ ?_<;>intro hb) | (refine zK ?_;intro Jo JU JC AH AJ AG))<;>(try clear fa))
     refine Aa [] ?_ ?_<;>(first | exact AK | refine zE ?_);rw [hU,hR,hd];rfl
    | false =>
     rw [f] at C3 hd;(have fa:=hzk;(repeat' first | refine zS C3 ?_ | refine zQ ?_ | (refine zN ?_;intro K hC hK) | (refine zM ?_;try clear hK hC K) | (refine zC ?_ ?_<;>intro hb) | (refine zK ?_;intro Jo JU JC AH AJ AG))<;>(try clear fa))
     exact hJ _ h ⟨by rw [hR,hd];rfl,by exact zV⟩
   ·obtain rfl:k=s.su.length:=by omega
    rw [List.drop_length] at hR;have hR:s.su.any HD=false:=hR;have hs:=Nj hR;rw [hR,if_neg (by simp)] at hU;clear hR C2;have B1:=DA s.wi 0 4;have B2:=DA s.dr 0 3;have B3:=DA s.fl 0 8;have B4:=DA s.co 1 4;have B5:=DA s.me 1 4;have B6:=DA s.de 0 20;have hN:(s.wi<0∨4<s.wi∨s.dr<0∨3<s.dr∨s.fl<0∨8<s.fl∨s.co<1∨4<s.co∨s.me<1∨4<s.me∨s.de<0∨20<s.de)→AP s=2:=fun h=>by rw [hU,if_pos (Bq h)]
    (repeat' first | refine zS B1 ?_ | refine zS B2 ?_ | refine zS B3 ?_ | refine zS B4 ?_ | refine zS B5 ?_ | refine zS B6 ?_ | refine zQ ?_ | (refine zN ?_;intro K hC hK) | (refine zM ?_;try clear hK hC K) | (refine zC ?_ ?_<;>intro hb) | (refine zK ?_;intro Jo JU JC AH AJ AG))
    iterate 6
     ·refine Aa [] ?_ ?_<;>(first | exact AK | refine zE ?_);rw [hN (by omega)]
    have hw:0≤s.wi∧s.wi≤4:=by assumption
    have hd:0≤s.dr∧s.dr≤3:=by assumption
    have hf:0≤s.fl∧s.fl≤8:=by assumption
    have hco:1≤s.co∧s.co≤4:=by assumption
    have hme:1≤s.me∧s.me≤4:=by assumption
    have hde:0≤s.de∧s.de≤20:=by assumption
    have hR:GD s=false:=by unfold GD;simp;omega
    have CP:=Mk s h3 hs hw hd;have hpb:=II h3 hs hw hd;rw [hR,if_neg (by simp)] at hU;clear hN hR B1 B2 B3 B4 B5 B6 C1;obtain ⟨p,hp⟩:∃p,AQ s=p:=⟨_,rfl⟩;rw [hp] at CP hpb hU;clear hp hs;by_cases c5:p=0
    ·rw [if_pos c5] at hU;(repeat' first | refine zS CP ?_ | refine zQ ?_ | (refine zN ?_;intro K hC hK) | (refine zM ?_;try clear hK hC K) | (refine zC ?_ ?_<;>intro hb) | (refine zK ?_;intro Jo JU JC AH AJ AG))
     refine Aa [] ?_ ?_<;>(first | exact AK | refine zE ?_);rw [hU]
    ·rw [if_neg c5] at hU;have m1:=Pi hpb hco;have m2:=Wq (p:=s.pl) (m:=s.me) (by omega) hme;(repeat' first | refine zS CP ?_ | refine zQ ?_ | (refine zN ?_;intro K hC hK) | (refine zM ?_;try clear hK hC K) | (refine zC ?_ ?_<;>intro hb) | (refine zK ?_;intro Jo JU JC AH AJ AG))
     refine Ab s.re.length (fun k σ=>Bl p (-1) s.re=Bl p (MR s.re k) (s.re.drop k)∧σ=⟨1900,[(1, .ref 0 0 0 0),(4,I p),(5,I k)],[(0, .arr 0 9 [AO s])]⟩) [(0,0)] [(0,0)] 0 [1,4,5] 1900 zf zf ⟨rfl,by exact zV⟩ ?_;rintro k σ' hk ⟨hR,rfl⟩ J hcJ hJ;by_cases h:k<s.re.length
     ·have hS:=Xw p h;have CB:=DA s.re[k] 0 (p-1);(repeat' first | refine zS CB ?_ | refine zQ ?_ | (refine zN ?_;intro K hC hK) | (refine zM ?_;try clear hK hC K) | (refine zC ?_ ?_<;>intro hb) | (refine zK ?_;intro Jo JU JC AH AJ AG))
      all_goals first
       | (refine hJ _ h ⟨?_,by exact zV⟩;rw [hR,hS];((repeat' split)<;>first | rfl | (exfalso;omega) | (simp_all;done) | (simp_all;omega)))
       | (refine Aa [] ?_ ?_<;>(first | exact AK | refine zE ?_);rw [hU,hR,hS];((repeat' split)<;>first | rfl | (exfalso;omega) | (simp_all;done) | (simp_all;omega)))
     ·obtain rfl:k=s.re.length:=by omega
      rw [List.drop_length] at hR;have hR:Bl p (-1) s.re=0:=hR;rw [hR,if_neg (by simp)] at hU;(repeat' first | refine zQ ?_ | (refine zN ?_;intro K hC hK) | (refine zM ?_;try clear hK hC K) | (refine zC ?_ ?_<;>intro hb) | (refine zK ?_;intro Jo JU JC AH AJ AG))
      all_goals (refine Aa [] ?_ ?_<;>(first | exact AK | refine zE ?_);rw [hU];((repeat' split)<;>first | rfl | (exfalso;omega) | (simp_all;done) | (simp_all;omega)))
theorem ZV {s:AL} {c:Cx} {h:HF} {y:Value} (k:AS c h (AO s) y):s.re.length≤9223372036854775807:=by
 obtain ⟨_,_,_,_,_,h1,h2⟩:=(Pj k).open_;obtain ⟨_,_,_,d,m,_⟩:=h2;unfold maxLen at m;omega
theorem Bk (s:AL):AM Tryz.prog 79 [AO s] (I (AP s)):=⟨⟨_,_,Tryz.func79,rfl,rfl⟩,fun c vals hn hh hx=>by
 obtain ⟨v,rfl,k⟩:=TU hx
 exact (U0 s (ZV k)).2 c _ hn hh hx⟩
theorem Ya (s:AL):AM Tryz.prog 151 [AO s] (I (AY s)):=by
 have CC:=Bv s;by_cases c:AP s=0
 ·rw [c] at CC;have V:=AU c;have hw:=V.wi;have hd:=V.dr;have h3:=V.su3;rw [F1 c];refine zb Tryz.ntmps151 ?_;let tb:=T9;let lv:=QJ;(repeat' first | refine zS CC ?_ | refine zQ ?_ | (refine zN ?_;intro K hC hK) | (refine zM ?_;try clear hK hC K) | (refine zC ?_ ?_<;>intro hb) | (refine zK ?_;intro Jo JU JC AH AJ AG))
  refine Ab s.su.length (fun k σ=>σ=⟨900,[(3,I (s.wi+s.dr+Aj (s.su.take k))),(15,AN false s.su),(16,I s.su.length),(17,I k)],[]⟩) [] [] 0 [3,15,16,17] 900 zf zf (by (have fa:=(And.intro @List.take_zero.{0} (And.intro Aj.eq_1 Int.add_zero));exact zV)) ?_;rintro k σ' hk rfl J hcJ hJ;by_cases h:k<s.su.length
  ·have hz:=V.su _ (List.getElem_mem h);have hst:s.wi+s.dr+Aj (s.su.take (k+1))=s.wi+s.dr+Aj (s.su.take k)+s.su[k]:=by rw [Fi s.su h];omega
   have hS:=Nn h3 V.su k;(repeat' first | refine zQ ?_ | (refine zN ?_;intro K hC hK) | (refine zM ?_;try clear hK hC K) | (refine zC ?_ ?_<;>intro hb) | (refine zK ?_;intro Jo JU JC AH AJ AG))
   exact hJ _ h (by (have fa:=hst;exact zV))
  ·obtain rfl:k=s.su.length:=by omega
   (repeat' first | refine zQ ?_ | (refine zN ?_;intro K hC hK) | (refine zM ?_;try clear hK hC K) | (refine zC ?_ ?_<;>intro hb) | (refine zK ?_;intro Jo JU JC AH AJ AG))
   refine Aa [] ?_ ?_<;>(have fa:=(And.intro @List.take_length.{0} @AQ.eq_1);first | exact AK | (refine zE ?_;try clear fa))
 ·rw [Id c];refine zb Tryz.ntmps151 ?_;let tb:=T9;let lv:=QJ;(repeat' first | refine zS CC ?_ | refine zQ ?_ | (refine zN ?_;intro K hC hK) | (refine zM ?_;try clear hK hC K) | (refine zC ?_ ?_<;>intro hb) | (refine zK ?_;intro Jo JU JC AH AJ AG))
  refine Aa [] ?_ ?_<;>(first | exact AK | refine zE ?_)
theorem ED (s:AL):AM Tryz.prog 101 [AO s] (I (AY s)):=by
 refine zb Tryz.ntmps101 ?_;let tb:=Zo;let lv:=WY;(repeat' first | refine zS (Ya s) ?_ | refine zQ ?_ | (refine zN ?_;intro K hC hK) | (refine zM ?_;try clear hK hC K) | (refine zC ?_ ?_<;>intro hb) | (refine zK ?_;intro Jo JU JC AH AJ AG))
 refine Aa [] ?_ ?_<;>(first | exact AK | refine zE ?_)
theorem H4 (s:AL):AM Tryz.prog 141 [AO s] (I (AY s)):=by
 have CC:=Bk s;by_cases c:AP s=0
 ·rw [c] at CC;have V:=AU c;have CP:=Mk s V.su3 V.su V.wi V.dr;rw [F1 c];refine zb Tryz.ntmps141 ?_;let tb:=T2;let lv:=Q2;(repeat' first | refine zS CC ?_ | refine zS CP ?_ | refine zQ ?_ | (refine zN ?_;intro K hC hK) | (refine zM ?_;try clear hK hC K) | (refine zC ?_ ?_<;>intro hb) | (refine zK ?_;intro Jo JU JC AH AJ AG))
  refine Aa [] ?_ ?_<;>(first | exact AK | refine zE ?_)
 ·rw [Id c];refine zb Tryz.ntmps141 ?_;let tb:=T2;let lv:=Q2;(repeat' first | refine zS CC ?_ | refine zQ ?_ | (refine zN ?_;intro K hC hK) | (refine zM ?_;try clear hK hC K) | (refine zC ?_ ?_<;>intro hb) | (refine zK ?_;intro Jo JU JC AH AJ AG))
  refine Aa [] ?_ ?_<;>(first | exact AK | refine zE ?_)
theorem IK (s:AL) (k:Int):AM Tryz.prog 92 [AO s,I k] (B (decide (0≤k)&&decide (k<AY s))):=by
 refine zb Tryz.ntmps92 ?_;let tb:=eE;let lv:=bG;(repeat' first | refine zS (H4 s) ?_ | refine zQ ?_ | (refine zN ?_;intro K hC hK) | (refine zM ?_;try clear hK hC K) | (refine zC ?_ ?_<;>intro hb) | (refine zK ?_;intro Jo JU JC AH AJ AG))
 all_goals (refine Aa [] ?_ ?_<;>(first | exact AK | refine zE ?_);simp;try omega)
theorem We {s:AL} {k a b:Int} (h:(k,a,b)∈D7 s):Bm s k=(a,b):=Kr h
set_option maxHeartbeats 4000000 in
theorem LJ (s:AL) (k:Int):AM Tryz.prog 174 [AO s,I k] (.tup [I (Bm s k).1,I (Bm s k).2]):=by
 have CK:=H4 s;have CC:=Bk s;by_cases e:AP s=0
 ·have V:=AU e;have v1:=V.plain;have v2:=V.fl;have v3:=V.wi;have v4:=V.dr;have v5:=V.su3;have hl:=LX s;have hS:=Nn V.su3 V.su;have hT:=hS s.su.length;rw [List.take_length] at hT;rw [if_pos e] at hl;rw [F1 e] at CK;rw [e] at CC;have hp:AQ s=s.wi+s.dr+Aj s.su:=rfl;by_cases hB:k<0∨AQ s+s.fl≤k
  ·rw [O5 (s:=s) (k:=k) (by omega)];refine zb Tryz.ntmps174 ?_;let tb:=Pg;let lv:=Mg;(repeat' first | refine zS CK ?_ | refine zS CC ?_ | refine zQ ?_ | (refine zN ?_;intro K hC hK) | (refine zM ?_;try clear hK hC K) | (refine zC ?_ ?_<;>intro hb) | (refine zK ?_;intro Jo JU JC AH AJ AG))
   all_goals refine Aa [] ?_ ?_<;>(first | exact AK | refine zE ?_)
  ·obtain ⟨P,hP⟩:∃P,Bm s k=P:=⟨_,rfl⟩;rw [hP];have hat:∀a b,(k,a,b)∈D7 s→P=(a,b):=fun a b h=>by rw [←hP,We h]
   clear hP hl;refine zb Tryz.ntmps174 ?_;let tb:=Pg;let lv:=Mg;(repeat' first | refine zS CK ?_ | refine zS CC ?_ | refine zQ ?_ | (refine zN ?_;intro K hC hK) | (refine zM ?_;try clear hK hC K) | (refine zC ?_ ?_<;>intro hb) | (refine zK ?_;intro Jo JU JC AH AJ AG))
   refine Ab s.su.length (fun j σ=>0≤k-Aj (s.su.take j)∧σ=⟨900,[(2, .ref 0 0 0 0),(6,I (k-Aj (s.su.take j))),(7,I j)],[(0, .arr 0 9 [AO s])]⟩) [(0,0)] [(0,0)] 0 [2,6,7] 900 zf zf ⟨by simp [Aj];omega,by (have fa:=(And.intro @List.take_zero.{0} (And.intro Aj.eq_1 Int.sub_zero));exact zV)⟩ ?_;rintro j σ' hj ⟨h0,rfl⟩ J hcJ hJ;have hSj:=hS j;by_cases h:j<s.su.length
   ·have hz:=V.su _ (List.getElem_mem h);have hst:k-Aj (s.su.take (j+1))=k-Aj (s.su.take j)-s.su[j]:=by rw [Fi s.su h];omega
    have hk:=hat j (k-Aj (s.su.take j));by_cases hin:k-Aj (s.su.take j)<s.su[j]
    ·have hc:(((k-Aj (s.su.take j)).toNat:Nat):Int)=k-Aj (s.su.take j):=by omega
     have hm:=RZ e (k:=k) (j:=j) (r:=(k-Aj (s.su.take j)).toNat) ⟨h,by omega,by omega⟩;rw [hc] at hm;rw [hk hm];(repeat' first | refine zQ ?_ | (refine zN ?_;intro K hC hK) | (refine zM ?_;try clear hK hC K) | (refine zC ?_ ?_<;>intro hb) | (refine zK ?_;intro Jo JU JC AH AJ AG))
     refine Aa [] ?_ ?_<;>(first | exact AK | refine zE ?_)
    ·(repeat' first | refine zQ ?_ | (refine zN ?_;intro K hC hK) | (refine zM ?_;try clear hK hC K) | (refine zC ?_ ?_<;>intro hb) | (refine zK ?_;intro Jo JU JC AH AJ AG))
     exact hJ _ h ⟨by omega,by (have fa:=hst;exact zV)⟩
   ·obtain rfl:j=s.su.length:=by omega
    rw [List.take_length] at *;by_cases b1:k-Aj s.su<s.wi
    ·have hm:=Xo e (r:=(k-Aj s.su).toNat) (by omega);rw [show (((k-Aj s.su).toNat:Nat):Int)=k-Aj s.su by omega,show Aj s.su+(k-Aj s.su)=k by omega] at hm;(repeat' first | refine zQ ?_ | (refine zN ?_;intro K hC hK) | (refine zM ?_;try clear hK hC K) | (refine zC ?_ ?_<;>intro hb) | (refine zK ?_;intro Jo JU JC AH AJ AG))
     refine Aa [] ?_ ?_<;>(first | exact AK | refine zE ?_);rw [hat _ _ hm]
    ·by_cases b2:k-Aj s.su-s.wi<s.dr
     ·have hm:=S7 e (r:=(k-Aj s.su-s.wi).toNat) (by omega);rw [show (((k-Aj s.su-s.wi).toNat:Nat):Int)=k-Aj s.su-s.wi by omega,show Aj s.su+s.wi+(k-Aj s.su-s.wi)=k by omega] at hm;(repeat' first | refine zQ ?_ | (refine zN ?_;intro K hC hK) | (refine zM ?_;try clear hK hC K) | (refine zC ?_ ?_<;>intro hb) | (refine zK ?_;intro Jo JU JC AH AJ AG))
      refine Aa [] ?_ ?_<;>(first | exact AK | refine zE ?_);rw [hat _ _ hm]
     ·have hm:=TR e (r:=(k-Aj s.su-s.wi-s.dr).toNat) (by omega);rw [show (((k-Aj s.su-s.wi-s.dr).toNat:Nat):Int)=k-Aj s.su-s.wi-s.dr by omega,show Aj s.su+s.wi+s.dr+(k-Aj s.su-s.wi-s.dr)=k by omega] at hm;(repeat' first | refine zQ ?_ | (refine zN ?_;intro K hC hK) | (refine zM ?_;try clear hK hC K) | (refine zC ?_ ?_<;>intro hb) | (refine zK ?_;intro Jo JU JC AH AJ AG))
      refine Aa [] ?_ ?_<;>(first | exact AK | refine zE ?_);rw [hat _ _ hm]
 ·rw [OB k e];rw [Id e] at CK;refine zb Tryz.ntmps174 ?_;let tb:=Pg;let lv:=Mg;(repeat' first | refine zS CK ?_ | refine zS CC ?_ | refine zQ ?_ | (refine zN ?_;intro K hC hK) | (refine zM ?_;try clear hK hC K) | (refine zC ?_ ?_<;>intro hb) | (refine zK ?_;intro Jo JU JC AH AJ AG))
  all_goals refine Aa [] ?_ ?_<;>(first | exact AK | refine zE ?_)
theorem Er (s:AL) (k:Int):AM Tryz.prog 153 [AO s,I k] (B (AT s k)):=by
 have CP:=JQ s k;unfold AT;cases Gj s k with
 | none h =>
  rw [h] at CP ⊢;refine zb Tryz.ntmps153 ?_;let tb:=PN;let lv:=MP;(repeat' first | refine zS CP ?_ | refine zQ ?_ | (refine zN ?_;intro K hC hK) | (refine zM ?_;try clear hK hC K) | (refine zC ?_ ?_<;>intro hb) | (refine zK ?_;intro Jo JU JC AH AJ AG))
  refine Aa [] ?_ ?_<;>(have fa:=Bool.false_and;first | exact AK | (refine zE ?_;try clear fa))
 | suit e j r h hj hr hk =>
  rw [h] at CP ⊢;dsimp only;rw [KX hj];have hz:=(AU e).su _ (List.getElem_mem hj);obtain ⟨z,hzj⟩:∃z,s.su[j]=z:=⟨_,rfl⟩;rw [hzj] at hr hz ⊢;refine zb Tryz.ntmps153 ?_;let tb:=PN;let lv:=MP;(have fa:=(And.intro @AO.eq_1 hzj);(repeat' first | refine zS CP ?_ | refine zQ ?_ | (refine zN ?_;intro K hC hK) | (refine zM ?_;try clear hK hC K) | (refine zC ?_ ?_<;>intro hb) | (refine zK ?_;intro Jo JU JC AH AJ AG))<;>(try clear fa))
  refine Aa [] ?_ ?_<;>(have fa:=Bool.true_and;first | exact AK | (refine zE ?_;try clear fa))
 | other e su r h hs hr hl hk =>
  rw [h] at CP ⊢;rcases hs with rfl | rfl | rfl;all_goals
   refine zb Tryz.ntmps153 ?_;let tb:=PN;let lv:=MP;(repeat' first | refine zS CP ?_ | refine zQ ?_ | (refine zN ?_;intro K hC hK) | (refine zM ?_;try clear hK hC K) | (refine zC ?_ ?_<;>intro hb) | (refine zK ?_;intro Jo JU JC AH AJ AG))
   refine Aa [] ?_ ?_<;>(have fa:=Bool.false_and;first | exact AK | (refine zE ?_;try clear fa))
theorem MH (s:AL) (k:Int):AM Tryz.prog 156 [AO s,I k] (B (AT s k)):=by
 have CP:=LJ s k;unfold AT;cases Gj s k with
 | none h =>
  rw [h] at CP ⊢;refine zb Tryz.ntmps156 ?_;let tb:=QE;let lv:=ML;(repeat' first | refine zS CP ?_ | refine zQ ?_ | (refine zN ?_;intro K hC hK) | (refine zM ?_;try clear hK hC K) | (refine zC ?_ ?_<;>intro hb) | (refine zK ?_;intro Jo JU JC AH AJ AG))
  refine Aa [] ?_ ?_<;>(have fa:=Bool.false_and;first | exact AK | (refine zE ?_;try clear fa))
 | suit e j r h hj hr hk =>
  rw [h] at CP ⊢;dsimp only;rw [KX hj];have hz:=(AU e).su _ (List.getElem_mem hj);obtain ⟨z,hzj⟩:∃z,s.su[j]=z:=⟨_,rfl⟩;rw [hzj] at hr hz ⊢;refine zb Tryz.ntmps156 ?_;let tb:=QE;let lv:=ML;(have fa:=(And.intro @AO.eq_1 hzj);(repeat' first | refine zS CP ?_ | refine zQ ?_ | (refine zN ?_;intro K hC hK) | (refine zM ?_;try clear hK hC K) | (refine zC ?_ ?_<;>intro hb) | (refine zK ?_;intro Jo JU JC AH AJ AG))<;>(try clear fa))
  refine Aa [] ?_ ?_<;>(have fa:=Bool.true_and;first | exact AK | (refine zE ?_;try clear fa))
 | other e su r h hs hr hl hk =>
  rw [h] at CP ⊢;rcases hs with rfl | rfl | rfl;all_goals
   refine zb Tryz.ntmps156 ?_;let tb:=QE;let lv:=ML;(repeat' first | refine zS CP ?_ | refine zQ ?_ | (refine zN ?_;intro K hC hK) | (refine zM ?_;try clear hK hC K) | (refine zC ?_ ?_<;>intro hb) | (refine zK ?_;intro Jo JU JC AH AJ AG))
   refine Aa [] ?_ ?_<;>(have fa:=Bool.false_and;first | exact AK | (refine zE ?_;try clear fa))
theorem FT (s:AL) (g:Gp):AM Tryz.prog 112 [AO s,AZ g] (I (Ak s g.wh g.kd)):=by
 have CR:=Er s g.kd;have CK:=ED s;obtain ⟨a,k,o⟩:=g;dsimp only at CR ⊢;unfold Ak;refine zb Tryz.ntmps112 ?_;let tb:=Zr;let lv:=XC;(repeat' first | refine zS CR ?_ | refine zS CK ?_ | refine zQ ?_ | (refine zN ?_;intro K hC hK) | (refine zM ?_;try clear hK hC K) | (refine zC ?_ ?_<;>intro hb) | (refine zK ?_;intro Jo JU JC AH AJ AG))
 all_goals (refine Aa [] ?_ ?_<;>(first | exact AK | refine zE ?_);((repeat' split)<;>first | rfl | (exfalso;omega) | (simp_all;done) | (simp_all;omega)))
theorem Em (s:AL) (g:Gp):AM Tryz.prog 122 [AO s,AZ g] (I (Ak s g.wh g.kd)):=by
 have CR:=MH s g.kd;have CK:=IK s g.kd;obtain ⟨a,k,o⟩:=g;dsimp only at CR CK ⊢;unfold Ak;refine zb Tryz.ntmps122 ?_;let tb:=ZU;let lv:=Yb;(repeat' first | refine zS CR ?_ | refine zS CK ?_ | refine zQ ?_ | (refine zN ?_;intro K hC hK) | (refine zM ?_;try clear hK hC K) | (refine zC ?_ ?_<;>intro hb) | (refine zK ?_;intro Jo JU JC AH AJ AG))
 all_goals (refine Aa [] ?_ ?_<;>(first | exact AK | refine zE ?_);((repeat' split)<;>first | rfl | (exfalso;omega) | (simp_all;done) | (simp_all;omega)))
theorem Ls (s:AL) (g:Gp):AM Tryz.prog 119 [AO s,AZ g] (I (BJ s g)):=by
 have CG:=Em s g;unfold BJ;obtain ⟨E,hE⟩:∃E,Ak s g.wh g.kd=E:=⟨_,rfl⟩;rw [hE] at CG ⊢;refine zb Tryz.ntmps119 ?_;let tb:=ZB;let lv:=Vo;(repeat' first | refine zS CG ?_ | refine zQ ?_ | (refine zN ?_;intro K hC hK) | (refine zM ?_;try clear hK hC K) | (refine zC ?_ ?_<;>intro hb) | (refine zK ?_;intro Jo JU JC AH AJ AG))
 all_goals (refine Aa [] ?_ ?_<;>(first | exact AK | refine zE ?_);((repeat' split)<;>first | rfl | (exfalso;omega) | (simp_all;done) | (simp_all;omega)))
theorem Wo {m:Int} {zs:List Int} {k:Nat} (h:k<zs.length):(zs.drop k).any (F8 m)=(F8 m zs[k] || (zs.drop (k+1)).any (F8 m)):=by
 rw [List.drop_eq_getElem_cons h,List.any_cons]
theorem RO (s:AL) (zs:List Int) (hz:zs.length≤9223372036854775807):AM Tryz.prog 118 [AO s,AN false zs] (I (Be s zs)):=by
 have CK:=H4 s;obtain ⟨K,hK⟩:∃K,AY s=K:=⟨_,rfl⟩;unfold Be;rw [hK] at CK ⊢;by_cases c:(zs.length:Int)=K
 ·rw [if_neg (by omega)];refine zb Tryz.ntmps118 ?_;let tb:=UN;let lv:=Q9;(repeat' first | refine zS CK ?_ | refine zQ ?_ | (refine zN ?_;intro K hC hK) | (refine zM ?_;try clear hK hC K) | (refine zC ?_ ?_<;>intro hb) | (refine zK ?_;intro Jo JU JC AH AJ AG))
  refine Ab zs.length (fun k σ=>zs.any (F8 s.co)=(zs.drop k).any (F8 s.co)∧σ=⟨900,[(1,AN false zs),(2, .ref 0 0 0 0),(5,I k)],[(0, .arr 0 9 [AO s])]⟩) [(0,0)] [(0,0)] 0 [1,2,5] 900 zf zf ⟨rfl,by exact zV⟩ ?_;rintro k σ' hk ⟨hR,rfl⟩ J hcJ hJ;by_cases h:k<zs.length
  ·have hd:=Wo (m:=s.co) h;obtain ⟨z,hzk⟩:∃z,zs[k]=z:=⟨_,rfl⟩;rw [hzk] at hd;by_cases f:F8 s.co z=true
   ·have hy:zs.any (F8 s.co)=true:=by rw [hR,hd,f];rfl
    rw [if_pos hy];unfold F8 at f;simp only [Bool.or_eq_true,decide_eq_true_eq] at f;by_cases f0:z<0
    ·(have fa:=hzk;(repeat' first | refine zQ ?_ | (refine zN ?_;intro K hC hK) | (refine zM ?_;try clear hK hC K) | (refine zC ?_ ?_<;>intro hb) | (refine zK ?_;intro Jo JU JC AH AJ AG))<;>(try clear fa))
     refine Aa [] ?_ ?_<;>(first | exact AK | refine zE ?_)
    ·(have fa:=hzk;(repeat' first | refine zQ ?_ | (refine zN ?_;intro K hC hK) | (refine zM ?_;try clear hK hC K) | (refine zC ?_ ?_<;>intro hb) | (refine zK ?_;intro Jo JU JC AH AJ AG))<;>(try clear fa))
     refine Aa [] ?_ ?_<;>(first | exact AK | refine zE ?_)
   ·have f2:=f;unfold F8 at f2;simp only [Bool.or_eq_true,decide_eq_true_eq] at f2;(have fa:=hzk;(repeat' first | refine zQ ?_ | (refine zN ?_;intro K hC hK) | (refine zM ?_;try clear hK hC K) | (refine zC ?_ ?_<;>intro hb) | (refine zK ?_;intro Jo JU JC AH AJ AG))<;>(try clear fa))
    exact hJ _ h ⟨by rw [hR,hd];simp [f],by exact zV⟩
  ·obtain rfl:k=zs.length:=by omega
   (repeat' first | refine zQ ?_ | (refine zN ?_;intro K hC hK) | (refine zM ?_;try clear hK hC K) | (refine zC ?_ ?_<;>intro hb) | (refine zK ?_;intro Jo JU JC AH AJ AG))
   refine Aa [] ?_ ?_<;>(first | exact AK | refine zE ?_);rw [hR,List.drop_length];rfl
 ·rw [if_pos c];refine zb Tryz.ntmps118 ?_;let tb:=UN;let lv:=Q9;(repeat' first | refine zS CK ?_ | refine zQ ?_ | (refine zN ?_;intro K hC hK) | (refine zM ?_;try clear hK hC K) | (refine zC ?_ ?_<;>intro hb) | (refine zK ?_;intro Jo JU JC AH AJ AG))
  refine Aa [] ?_ ?_<;>(first | exact AK | refine zE ?_)
theorem Hb (s:AL) (zs:List Int):AM Tryz.prog 118 [AO s,AN false zs] (I (Be s zs)):=⟨⟨_,_,Tryz.func118,rfl,rfl⟩,fun c vals hn hh hx=>by
 obtain ⟨v,v',rfl,k1,k2⟩:=IJ hx
 obtain ⟨_,_,_,d,m,_⟩:=Mp k2
 unfold maxLen at m
 exact (RO s zs (by omega)).2 c _ hn hh hx⟩
end Go.Proofs.YthblfhgofopcaaaGreat
