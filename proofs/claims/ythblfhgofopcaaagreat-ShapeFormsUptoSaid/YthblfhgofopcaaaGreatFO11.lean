/-
  Parts of the proof: Read1, Read2, Read3.
-/
import Derived.Test.YthblfhgofopcaaaGreatSH13
import Derived.Test.YthblfhgofopcaaaGreatSH14
import Derived.Test.YthblfhgofopcaaaGreatFO10
import Derived.Test.YthblfhgofopcaaaGreatSH23
import Derived.Test.YthblfhgofopcaaaGreatFO08
set_option linter.all false
namespace Go.Proofs.YthblfhgofopcaaaGreat
open Go.RowKit
set_option maxRecDepth 100000
set_option maxHeartbeats 2000000
def Ch (s:AL) (l:List Fm) (h:Hd):Bool:=decide (A6 s l=0)&&decide (Ag s h=0)
theorem KQ (s:AL) (l:List Fm) (h:Hd) (hf:∀f∈l,f.ks.length≤1000000) (hl:l.length≤1000000) (hs:s.su.length≤1000000) (h1:h.me.length≤1000000) (h2:h.bag.length≤1000000):AM Tryz.prog 87 [AO s,Bh false l,Cb false h] (B (Ch s l h)):=by
 have CF:=Lr s l hf hl hs;have CH:=Dk s h h1 h2;by_cases c:A6 s l=0
 ·have e:(A6 s l==0)=true:=by simp [c]
  rw [c] at CF;have hU:Ch s l h=(Ag s h==0):=by unfold Ch;simp [c];rfl
  rw [hU];refine zb Tryz.ntmps87 ?_;let tb:=Vl;let lv:=UR;(repeat' first|refine zS CF ?_|refine zS CH ?_|refine zQ ?_|refine zN ?_;intro K hC hK|refine zM ?_;try clear hK hC K|refine zC ?_ ?_<;>intro hb|refine zK ?_;intro Jo JU JC AH AJ AG)
  refine Aa [] ?_ ?_<;>(first|exact AK|refine zE ?_)
 ·have e:(A6 s l==0)=false:=by simp [c]
  have hU:Ch s l h=false:=by unfold Ch;simp [c]
  rw [hU];refine zb Tryz.ntmps87 ?_;let tb:=Vl;let lv:=UR;(have fa:=e;(repeat' first|refine zS CF ?_|refine zQ ?_|refine zN ?_;intro K hC hK|refine zM ?_;try clear hK hC K|refine zC ?_ ?_<;>intro hb|refine zK ?_;intro Jo JU JC AH AJ AG)<;>(try clear fa))
  refine Aa [] ?_ ?_<;>(first|exact AK|refine zE ?_)
section
variable (s:AL) (h:Hd) (A:Fm→List (List Gp))
theorem aI (f:Fm) (hA:AM Tryz.prog 88 [AO s,DN false f,Cb false h] (EG false (A f))):D3 Tryz.prog 99 [DN false f, .ref 0 0 0 0, .ref 1 0 0 0] [(0, .arr 0 9 [AO s]),(1, .arr 0 2 [Cb false h])] (B (decide (0<(A f).length))) [(0, .arr 0 9 [AO s]),(1, .arr 0 2 [Cb false h])]:=by
 unfold D3;refine FL 2 Tryz.ntmps99 ?_;let tb:=fA;let lv:=bM;(repeat' first|refine zS hA ?_|refine zQ ?_|refine zN ?_;intro K hC hK|refine zM ?_;try clear hK hC K|refine zC ?_ ?_<;>intro hb|refine zK ?_;intro Jo JU JC AH AJ AG)
 refine Aa [(0,0),(1,1)] ?_ ?_<;>(first|exact AK|refine zE ?_);simp [B]
def GZ (l:List Fm):Bool:=l.any fun f=>decide (0<(A f).length)
theorem W9 (l:List Fm) (hl:l.length≤1000000) (hA:∀f∈l,AM Tryz.prog 88 [AO s,DN false f,Cb false h] (EG false (A f))):Hn Tryz.prog 150 [Bh false l, .clo 99 [.ref 0 0 0 0, .ref 1 0 0 0]] [(0, .arr 0 9 [AO s]),(1, .arr 0 2 [Cb false h])] (fun k:Int=>I k) (fun _=>[(0, .arr 0 9 [AO s]),(1, .arr 0 2 [Cb false h])]) (fun k=>decide (0≤k)=GZ A l):=by
 unfold Hn;refine FL 2 Tryz.ntmps150 ?_;let tb:=Z6;let lv:=WX;(repeat' first|refine zQ ?_|refine zN ?_;intro K hC hK|refine zM ?_;try clear hK hC K|refine zC ?_ ?_<;>intro hb|refine zK ?_;intro Jo JU JC AH AJ AG)
 refine Ab l.length (fun j σ=>(∀i,(hi:i<l.length)→i<j→(A l[i]).length=0)∧σ=⟨900,[(0,Bh false l),(1, .clo 99 [.ref 0 0 0 0, .ref 1 0 0 0]),(7,I l.length),(8,I j)],[(0, .arr 0 9 [AO s]),(1, .arr 0 2 [Cb false h])]⟩) [(0,0),(1,1)] [(0,0),(1,1)] 0 [0,1,7,8] 900 zg zg ⟨fun i _ hi=>absurd hi (Nat.not_lt_zero i),by exact zV⟩ ?_;rintro j σ' hj ⟨hR,rfl⟩ J hcJ hJ;by_cases hlt:j<l.length
 ·obtain ⟨f,hfj⟩:∃f,l[j]=f:=⟨_,rfl⟩;have C1:=aI s h A f (hA f (by rw [←hfj];exact List.getElem_mem hlt));by_cases hn:0<(A f).length
  ·rw [decide_eq_true hn] at C1;(have fa:=hfj;(repeat' first|refine zJ (tg [0,1]) C1 ?_|refine zQ ?_|refine zN ?_;intro K hC hK|refine zM ?_;try clear hK hC K|refine zC ?_ ?_<;>intro hb|refine zK ?_;intro Jo JU JC AH AJ AG)<;>(try clear fa))
   refine Aa [(0,0),(1,1)] ?_ ?_<;>(first|exact AK|refine zE ?_);refine ⟨(j:Int),?_,rfl⟩;rw [decide_eq_true (by omega)];unfold GZ;exact (List.any_eq_true.2 ⟨f,by rw [←hfj];exact List.getElem_mem hlt,by simpa using hn⟩).symm
  ·rw [decide_eq_false hn] at C1;(have fa:=hfj;(repeat' first|refine zJ (tg [0,1]) C1 ?_|refine zQ ?_|refine zN ?_;intro K hC hK|refine zM ?_;try clear hK hC K|refine zC ?_ ?_<;>intro hb|refine zK ?_;intro Jo JU JC AH AJ AG)<;>(try clear fa))
   refine hJ _ hlt ⟨fun i hi h2=> ?_,by exact zV⟩;by_cases e:i=j
   ·subst e;rw [hfj];omega
   ·exact hR i hi (by omega)
 ·(repeat' first|refine zQ ?_|refine zN ?_;intro K hC hK|refine zM ?_;try clear hK hC K|refine zC ?_ ?_<;>intro hb|refine zK ?_;intro Jo JU JC AH AJ AG)
  refine Aa [(0,0),(1,1)] ?_ ?_<;>(first|exact AK|refine zE ?_);refine ⟨-1,?_,rfl⟩;unfold GZ;rw [decide_eq_false (by omega)];refine (List.any_eq_false.2 fun f hf=> ?_).symm;obtain ⟨i,hi,rfl⟩:=List.mem_iff_getElem.1 hf;have:=hR i hi (by omega);simp [this]
theorem aC (l:List Fm) (hl:l.length≤1000000) (hA:∀f∈l,AM Tryz.prog 88 [AO s,DN false f,Cb false h] (EG false (A f))):D3 Tryz.prog 98 [Bh false l, .clo 99 [.ref 0 0 0 0, .ref 1 0 0 0]] [(0, .arr 0 9 [AO s]),(1, .arr 0 2 [Cb false h])] (B (GZ A l)) [(0, .arr 0 9 [AO s]),(1, .arr 0 2 [Cb false h])]:=by
 have CI:=W9 s h A l hl hA;unfold D3;refine FL 2 Tryz.ntmps98 ?_;let tb:=gJ;let lv:=bL;(repeat' first|refine zQ ?_|refine zN ?_;intro K hC hK|refine zM ?_;try clear hK hC K|refine zC ?_ ?_<;>intro hb|refine zK ?_;intro Jo JU JC AH AJ AG)
 (refine zX (tg [0,1]) (CI) ?_;clear AH AJ AG Jo JU JC);intro xr hxr;(repeat' first|refine zQ ?_|refine zN ?_;intro K hC hK|refine zM ?_;try clear hK hC K|refine zC ?_ ?_<;>intro hb|refine zK ?_;intro Jo JU JC AH AJ AG)
 refine Aa [(0,0),(1,1)] ?_ ?_<;>(first|exact AK|refine zE ?_);rw [←hxr]
def Dn (l:List Fm):Bool:=Ch s l h&&Am s h&&GZ A l
theorem OD (l:List Fm) (hf:∀f∈l,f.ks.length≤1000000) (hl:l.length≤1000000) (hs:s.su.length≤1000000) (h1:h.me.length≤1000000) (h2:h.bag.length≤1000000) (hA:Ch s l h=true→Am s h=true→∀f∈l,AM Tryz.prog 88 [AO s,DN false f,Cb false h] (EG false (A f))):AM Tryz.prog 33 [AO s,Bh false l,Cb false h] (B (Dn s h A l)):=by
 have CF:=KQ s l h hf hl hs h1 h2;have CU:=Kc s h h1 h2;unfold Dn;cases c:Ch s l h with
 | false =>
  rw [c] at CF;refine zb Tryz.ntmps33 ?_;let tb:=SJ;let lv:=PZ;(repeat' first|refine zS CF ?_|refine zQ ?_|refine zN ?_;intro K hC hK|refine zM ?_;try clear hK hC K|refine zC ?_ ?_<;>intro hb|refine zK ?_;intro Jo JU JC AH AJ AG)
  refine Aa [] ?_ ?_<;>(first|exact AK|refine zE ?_);rfl
 | true =>
  rw [c] at CF;cases d:Am s h with
  | false =>
   rw [d] at CU;refine zb Tryz.ntmps33 ?_;let tb:=SJ;let lv:=PZ;(repeat' first|refine zS CF ?_|refine zS CU ?_|refine zQ ?_|refine zN ?_;intro K hC hK|refine zM ?_;try clear hK hC K|refine zC ?_ ?_<;>intro hb|refine zK ?_;intro Jo JU JC AH AJ AG)
   refine Aa [] ?_ ?_<;>(first|exact AK|refine zE ?_);rfl
  | true =>
   rw [d] at CU;have CC:=aC s h A l hl (hA c d);refine zb Tryz.ntmps33 ?_;let tb:=SJ;let lv:=PZ;(repeat' first|refine zS CF ?_|refine zS CU ?_|refine zJ (tg [0,16]) CC ?_|refine zQ ?_|refine zN ?_;intro K hC hK|refine zM ?_;try clear hK hC K|refine zC ?_ ?_<;>intro hb|refine zK ?_;intro Jo JU JC AH AJ AG)
   refine Aa [] ?_ ?_<;>(first|exact AK|refine zE ?_);rfl
end
def Gv (W:Nat→Bool):Nat→List Int
 | 0=>[]
 | k+1=>Gv W k++if W k=true then [(k:Int)] else []
theorem KA (W:Nat→Bool):∀k,(Gv W k).length≤k
 | 0=>Nat.le_refl _
 | k+1=>by
  have:=KA W k;rw [Gv,List.length_append];split<;>simp<;>omega
def DC (s:AL) (h:Hd) (l:List Fm) (W:Nat→Bool):List Int:=if Ch s l h=true∧Am s h=false then Gv W h.bag.length else []
set_option maxHeartbeats 2000000 in
theorem M2 (s:AL) (h:Hd) (l:List Fm) (W:Nat→Bool) (hf:∀f∈l,f.ks.length≤1000000) (hl:l.length≤1000000) (hs:s.su.length≤1000000) (h1:h.me.length≤1000000) (h2:h.bag.length≤1000000)
  (hW:Ch s l h=true→∀k:Nat,k<h.bag.length→AM Tryz.prog 33 [AO s,Bh false l,Cb false ⟨Aq h.bag k,h.me⟩] (B (W k))):AM Tryz.prog 36 [AO s,Bh false l,Cb false h] (AN true (DC s h l W)):=by
 have CF:=KQ s l h hf hl hs h1 h2;have CU:=Kc s h h1 h2;cases c:Ch s l h with
 | false =>
  have hU:DC s h l W=[]:=by unfold DC;rw [if_neg (by simp [c])]
  rw [c] at CF;rw [hU];refine Ba ?_;refine zb Tryz.ntmps36 ?_;let tb:=SD;let lv:=P5;(repeat' first|refine zS CF ?_|refine zQ ?_|refine zN ?_;intro K hC hK|refine zM ?_;try clear hK hC K|refine zC ?_ ?_<;>intro hb|refine zK ?_;intro Jo JU JC AH AJ AG)
  refine Aa [] ?_ ?_<;>(first|exact AK|refine zE ?_);exact An.nil _ _
 | true =>
  rw [c] at CF;cases d:Am s h with
  | true =>
   have hU:DC s h l W=[]:=by unfold DC;rw [if_neg (by simp [d])]
   rw [d] at CU;rw [hU];refine Ba ?_;refine zb Tryz.ntmps36 ?_;let tb:=SD;let lv:=P5;(repeat' first|refine zS CF ?_|refine zS CU ?_|refine zQ ?_|refine zN ?_;intro K hC hK|refine zM ?_;try clear hK hC K|refine zC ?_ ?_<;>intro hb|refine zK ?_;intro Jo JU JC AH AJ AG)
   refine Aa [] ?_ ?_<;>(first|exact AK|refine zE ?_);exact An.nil _ _
  | false =>
   have hU:DC s h l W=Gv W h.bag.length:=by unfold DC;rw [if_pos ⟨c,d⟩]
   replace hW:=hW c;have hh:Ag s h=0:=by unfold Ch at c;simp at c;exact c.2
   have ho:=DP hh;have hK:AY s=(h.bag.length:Int):=by have:=ho.ln;omega
   have CK:=ED s;rw [hK] at CK;have CC:=Xu h h2 h1;rw [d] at CU;rw [hU];have V:=AU ho.va;have hco:=V.co;have hrg:=ho.rg;have hpl:=DI ho.va;clear c d hU hh ho V;obtain ⟨bag,me⟩:=h;dsimp only at *;refine zb Tryz.ntmps36 ?_;let tb:=SD;let lv:=P5;(repeat' first|refine zS CF ?_|refine zS CU ?_|refine zS CK ?_|refine zQ ?_|refine zN ?_;intro K hC hK|refine zM ?_;try clear hK hC K|refine zC ?_ ?_<;>intro hb|refine zK ?_;intro Jo JU JC AH AJ AG)
   refine A8 (BY 7 500 0 1 (by rfl) (by rfl)) (α:=Nat×Nat) (fun a=>[(1,Bh false l),(3, .ref 0 0 0 0),(5, .ref 1 0 0 0),(7, .rsl 2 a.2 0 (Gv W a.1).length),(21,I bag.length),(22,I a.1)]) (fun a=>[(0, .arr 0 9 [AO s]),(1, .arr 0 2 [Cb false ⟨bag,me⟩]),(2, .arr a.2 1 ((Gv W a.1).map I))])
    (fun a=>bag.length-a.1) (fun a=>a.1≤bag.length) [(0,0),(16,1),(500,2)] [(0,0),(1,1),(2,2)] 0 [1,3,5,7,21,22] 900 zf zf (0,0) (Nat.zero_le _) (by (have fa:=(And.intro @Dg.eq_1 (And.intro (And.intro @Ci.eq_1 @Ci.eq_2) (And.intro @Gv.eq_1 @Gv.eq_2)));exact CZ)) ?_
   rintro ⟨k,g⟩ hk J hcJ hJ;dsimp only at hk hJ ⊢;have hln:=KA W k;by_cases hlt:k<bag.length
   ·obtain ⟨z,hz⟩:∃z,bag[k]=z:=⟨_,rfl⟩;have hzb:=hrg z (by rw [←hz];exact List.getElem_mem hlt);have CW:=hW k hlt;have hinc:(bag.map I).set k (I (z+1))=(Aq bag k).map I:=by unfold Aq;rw [List.map_set];simp [hlt,hz]
    have hil:=Cy bag (k:Int);have hws:Gv W (k+1)=Gv W k++if W k=true then [(k:Int)] else []:=rfl
    obtain ⟨Y,hY⟩:∃Y,Aq bag k=Y:=⟨_,rfl⟩;rw [hY] at hinc hil CW;have hTY:Y.take bag.length=Y:=List.take_of_length_le (by omega);have hTY2:bag.length≤Y.length:=by omega
    have hTm:me.take me.length=me:=List.take_length;obtain ⟨L,hL⟩:∃L,Gv W k=L:=⟨_,rfl⟩;rw [hL] at hln hws ⊢;have hTL:L.take L.length=L:=List.take_length;cases w:W k with
    | true =>
     rw [w] at CW;rw [w,if_pos rfl] at hws;(have fa:=(And.intro hz (And.intro hinc (And.intro hTY (And.intro hTY2 (And.intro hTm hTL)))));(repeat' first|refine zO CC ?_|refine zS CW ?_|refine zQ ?_|refine zN ?_;intro K hC hK|refine zM ?_;try clear hK hC K|refine zC ?_ ?_<;>intro hb|refine zK ?_;intro Jo JU JC AH AJ AG)<;>(try clear fa))
     exact hJ _ (k+1,g+1) (by dsimp only;omega) (by dsimp only;omega) (by (have fa:=(And.intro hws @List.length_append.{0});exact CZ))
    | false =>
     rw [w] at CW;rw [w,if_neg (by simp),List.append_nil] at hws;(have fa:=(And.intro hz (And.intro hinc (And.intro hTY (And.intro hTY2 (And.intro hTm hTL)))));(repeat' first|refine zO CC ?_|refine zS CW ?_|refine zQ ?_|refine zN ?_;intro K hC hK|refine zM ?_;try clear hK hC K|refine zC ?_ ?_<;>intro hb|refine zK ?_;intro Jo JU JC AH AJ AG)<;>(try clear fa))
     exact hJ _ (k+1,g) (by dsimp only;omega) (by dsimp only;omega) (by (have fa:=hws;exact CZ))
   ·obtain rfl:k=bag.length:=by omega
    (repeat' first|refine zQ ?_|refine zN ?_;intro K hC hK|refine zM ?_;try clear hK hC K|refine zC ?_ ?_<;>intro hb|refine zK ?_;intro Jo JU JC AH AJ AG)
    refine Aa [] ?_ ?_<;>(first|exact AK|refine zE ?_)
theorem dI (me:List Gp) (last fm:Int):N7 me last fm []=[]:=rfl
theorem rV (me:List Gp) (last fm:Int) (c:List Gp) (n:Nat):L2 me last fm c (n-n)=[]:=by rw [Nat.sub_self];rfl
theorem MQ (l:List Gp) (h0:0<l.length) (h1:l.length≤1000000):AM Tryz.prog 91 [AX false l] (AX true l):=by
 have he:(l.map AZ≠[])=True:=by
  have:l≠[]:=List.length_pos_iff.1 h0;simp [this]
 have hT:l.take l.length=l:=List.take_length;refine zb Tryz.ntmps91 ?_;let tb:=Pp;let lv:=aT;(have fa:=(And.intro he hT);(repeat' first|refine zQ ?_|refine zN ?_;intro K hC hK|refine zM ?_;try clear hK hC K|refine zC ?_ ?_<;>intro hb|refine zK ?_;intro Jo JU JC AH AJ AG)<;>(try clear fa))
 all_goals first
  | (refine Aa [] ?_ ?_<;>(have fa:=hT;first|exact AK|(refine zE ?_;try clear fa));done)
  | trace_state
def RJ (s:AL) (h:Hd) (l:List Fm) (last:Int):Bool:=Ch s l h&&Am s h&&decide (0≤last)&&decide (last<(h.bag.length:Int))&&decide (h.bag.getD last.toNat 0≠0)
def GI (s:AL) (h:Hd) (A:Fm→List (List Gp)) (l:List Fm) (last:Int):List Rg:=if RJ s h l last=true then Kn A h.me last l l.length else []
structure Yx (s:AL) (c:List (List Gp)):Prop where
 ln:c.length≤100000
 w:∀x∈c,0<x.length∧x.length≤100∧∀g∈x,Ak s g.wh g.kd=0
set_option maxHeartbeats 8000000 in
theorem M5 (s:AL) (h:Hd) (A:Fm→List (List Gp)) (l:List Fm) (last:Int) (hf:∀f∈l,f.ks.length≤1000000) (hl:l.length≤1000000) (hs:s.su.length≤1000000) (h1:h.me.length≤1000000) (h2:h.bag.length≤1000000)
  (hA:Ch s l h=true→Am s h=true→∀f∈l,Yx s (A f)∧AM Tryz.prog 88 [AO s,DN false f,Cb false h] (EG false (A f))):AM Tryz.prog 28 [AO s,Bh false l,Cb false h,I last] (N0 true (GI s h A l last)):=by
 have CF:=KQ s l h hf hl hs h1 h2;have CU:=Kc s h h1 h2;by_cases ha:RJ s h l last=true
 ·have hU:GI s h A l last=Kn A h.me last l l.length:=by unfold GI;rw [if_pos ha]
  unfold RJ at ha;simp only [Bool.and_eq_true,decide_eq_true_eq] at ha;obtain ⟨⟨⟨⟨c1,c2⟩,c3⟩,c4⟩,c5⟩:=ha;rw [c1] at CF;rw [c2] at CU;replace hA:=hA c1 c2;have ho:=DP (s:=s) (x:=h) (by unfold Ch at c1;simp at c1;exact c1.2);have hmm:=ho.mm;have hme:=(AU ho.va).me;have hv:=ho.va;have hll:l.length≤8:=by
   have hfo:A6 s l=0:=by unfold Ch at c1;simp at c1;exact c1.1
   unfold A6 at hfo;rw [if_neg (by simp [ho.va])] at hfo;split at hfo
   ·cases hfo
   ·split at hfo
    ·cases hfo
    ·omega
  clear ho c1 c2;rw [hU];obtain ⟨bag,me⟩:=h;dsimp only at *;have hbl:bag.getD last.toNat 0=bag[last.toNat]'(by omega):=by rw [List.getD_eq_getElem?_getD,List.getElem?_eq_getElem (by omega)];rfl
  have hb0:¬bag[last.toNat]'(by omega)=0:=by rw [←hbl];exact c5
  refine zb Tryz.ntmps28 ?_;let tb:=Ky;let lv:=Ip;(repeat' first|refine zS CF ?_|refine zS CU ?_|refine zQ ?_|refine zN ?_;intro K hC hK|refine zM ?_;try clear hK hC K|refine zC ?_ ?_<;>intro hb|refine zK ?_;intro Jo JU JC AH AJ AG)
  refine A8 (BY 9 500 0 3 (by rfl) (by rfl)) (α:=Nat×Nat) (fun a=>[(3,I last),(4, .ref 0 0 0 0),(6, .ref 1 0 0 0),(9, .rsl 2 a.2 0 (Kn A me last l a.1).length),(47,Bh false l),(48,I l.length),(49,I a.1)]) (fun a=>[(0, .arr 0 9 [AO s]),(1, .arr 0 2 [Cb false ⟨bag,me⟩]),(2, .arr a.2 3 ((Kn A me last l a.1).map (Hi true)))])
   (fun a=>l.length-a.1) (fun a=>a.1≤l.length) [(0,0),(16,1),(500,2)] [(0,0),(1,1),(2,2)] 0 [3,4,6,9,47,48,49] 900 zf zf (0,0) (Nat.zero_le _) (by (have fa:=(And.intro @Dg.eq_1 (And.intro (And.intro @Ci.eq_1 @Ci.eq_2) (And.intro @Kn.eq_1 @Kn.eq_2)));exact CZ)) ?_
  rintro ⟨i,g0⟩ hi J hcJ hJ;dsimp only at hi hJ ⊢;have hrl:=Lz A me last (fs:=l) (a:=100000) (m:=100) (fun f hf=>⟨(hA f hf).1.ln,fun c hc=>((hA f hf).1.w c hc).2.1⟩) i;have hrl2:(Kn A me last l i).length≤80000000:=Nat.le_trans hrl (by have:=Nat.mul_le_mul_right (100000*100) (show i≤8 by omega);omega);clear hrl;by_cases hlt:i<l.length
  ·obtain ⟨f,hfi⟩:∃f,l[i]=f:=⟨_,rfl⟩;have hfm:f∈l:=by rw [←hfi];exact List.getElem_mem hlt
   obtain ⟨hok,CA⟩:=hA f hfm;have hstep:Kn A me last l (i+1)=Kn A me last l i++N7 me last i (A f):=by rw [Kn,List.getElem?_eq_getElem hlt,hfi]
   obtain ⟨cs,hcs⟩:∃cs,A f=cs:=⟨_,rfl⟩;rw [hcs] at hok CA hstep;obtain ⟨R,hR⟩:∃R,Kn A me last l i=R:=⟨_,rfl⟩;rw [hR] at hrl2 hstep ⊢;have hcl:=hok.ln;(have fa:=hfi;(repeat' first|refine zS CA ?_|refine zQ ?_|refine zN ?_;intro K hC hK|refine zM ?_;try clear hK hC K|refine zC ?_ ?_<;>intro hb|refine zK ?_;intro Jo JU JC AH AJ AG)<;>(try clear fa))
   refine At (α:=Nat×Nat) (fun a=>[(3,I last),(4, .ref 0 0 0 0),(6, .ref 1 0 0 0),(9, .rsl 2 a.2 0 (R++N7 me last i (cs.take a.1)).length),(10,I i),(47,Bh false l),(48,I l.length),(49,I i),(57,EG false cs),(58,I cs.length),(59,I a.1)]) (fun a=>[(0, .arr 0 9 [AO s]),(1, .arr 0 2 [Cb false ⟨bag,me⟩]),(2, .arr a.2 3 ((R++N7 me last i (cs.take a.1)).map (Hi true)))])
    (fun a=>cs.length-a.1) (fun a=>a.1≤cs.length) [(0,0),(1,1),(2,2)] [(0,0),(1,1),(2,2)] 0 [3,4,6,9,10,47,48,49,57,58,59] 1900 zf zf (0,g0) (Nat.zero_le _) (by (have fa:=(And.intro @dI @List.append_nil.{0});exact C8)) ?_
   rintro ⟨n,g1⟩ hn J2 hcJ2 hJ2;dsimp only at hn hJ2 ⊢;have hfl:=L3 me last (i:Int) (m:=100) (cs.take n) fun x hx=>(hok.w x (List.mem_of_mem_take hx)).2.1
   have hfl2:(N7 me last i (cs.take n)).length≤10000000:=Nat.le_trans hfl (by rw [List.length_take];have:=Nat.mul_le_mul_right 100 (show min n cs.length≤100000 by omega);omega);clear hfl;by_cases hnl:n<cs.length
   ·obtain ⟨c,hc⟩:∃c,cs[n]=c:=⟨_,rfl⟩;obtain ⟨w1,w2,w3⟩:=hok.w c (by rw [←hc];exact List.getElem_mem hnl);have hst2:=Q5 me last (i:Int) cs hnl;rw [hc] at hst2;obtain ⟨R2,hR2⟩:∃R2,R++N7 me last i (cs.take n)=R2:=⟨_,rfl⟩;have hst3:R++N7 me last i (cs.take (n+1))=R2++L2 me last i c c.length:=by rw [←hR2,←hst2,List.append_assoc]
    have hR2l:R2.length≤90000000:=by rw [←hR2,List.length_append];omega
    have CC:=QO me c (by omega) (by omega);have hab:(me++c).length=me.length+c.length:=by simp
    have CL:=MQ (me++c) (by omega) (by omega);rw [hR2];clear hst2;(have fa:=hc;(repeat' first|refine zS CC ?_|refine zQ ?_|refine zN ?_;intro K hC hK|refine zM ?_;try clear hK hC K|refine zC ?_ ?_<;>intro hb|refine zK ?_;intro Jo JU JC AH AJ AG)<;>(try clear fa))
    have hG1:∀t (ht:t<c.length),(me++c)[me.length+t]'(by omega)=c[t]:=fun t ht=>by
     rw [List.getElem_append_right (by omega)];simp
    obtain ⟨G,hG⟩:∃G,me++c=G:=⟨_,rfl⟩;rw [hG] at CL hab ⊢;simp only [hG] at hG1;clear CC;refine At (α:=Nat×Nat) (fun a=>[(3,I last),(4, .ref 0 0 0 0),(6, .ref 1 0 0 0),(9, .rsl 2 a.2 0 (R2++L2 me last i c (a.1-me.length)).length),(10,I i),(14,AX true G),(15,I a.1),(47,Bh false l),(48,I l.length),(49,I i),(57,EG false cs),(58,I cs.length),(59,I n)]) (fun a=>[(0, .arr 0 9 [AO s]),(1, .arr 0 2 [Cb false ⟨bag,me⟩]),(2, .arr a.2 3 ((R2++L2 me last i c (a.1-me.length)).map (Hi true)))])
     (fun a=>G.length-a.1) (fun a=>me.length≤a.1∧a.1≤G.length) [(0,0),(1,1),(2,2)] [(0,0),(1,1),(2,2)] 0 [3,4,6,9,10,14,15,47,48,49,57,58,59] 2900 zf zf (me.length,g1) ⟨Nat.le_refl _,by omega⟩ (by (have fa:=(And.intro @rV @List.append_nil.{0});exact C8)) ?_
    rintro ⟨at_,g2⟩ ⟨t1,t2⟩ J3 hcJ3 hJ3;dsimp only at t1 t2 hJ3 ⊢;have hrc:=MC me last (i:Int) c (at_-me.length);by_cases hal:at_<G.length
    ·obtain ⟨t,ht⟩:∃t,at_=me.length+t:=⟨at_-me.length,by omega⟩;have htl:t<c.length:=by omega
     obtain ⟨g,hg⟩:∃g,c[t]=g:=⟨_,rfl⟩;have hgr:=w3 g (by rw [←hg];exact List.getElem_mem htl);have e1:G[at_]=g:=by subst ht;rw [hG1 t htl,hg]
     have CT:=Ep s g;rw [show BT s g.wh g.kd=AI g.wh g.kd by unfold BT;rw [if_pos ⟨hv,hgr⟩]] at CT;have CN:=N3 (AI g.wh g.kd) last (by have:=Bt g.wh g.kd;omega);have hsu:at_+1-me.length=(at_-me.length)+1:=by omega
     have hst4:L2 me last i c (at_+1-me.length)=L2 me last i c (at_-me.length)++if M1 c last t=true then [⟨i,G,at_⟩] else []:=by
      rw [hsu,show at_-me.length=t by omega,L2,hG,ht];simp
     have hhit:M1 c last t=(((AI g.wh g.kd).any fun y=>last==y)&& !(decide (0<t)&&decide (c[t-1]? =some g))):=by
      unfold M1;rw [List.getElem?_eq_getElem htl,hg];simp only;congr 2;funext y;exact Bool.beq_comm
     obtain ⟨b,hb⟩:∃b,((AI g.wh g.kd).any fun y=>last==y)=b:=⟨_,rfl⟩;rw [hb] at CN hhit;obtain ⟨R3,hR3⟩:∃R3,L2 me last i c (at_-me.length)=R3:=⟨_,rfl⟩;rw [hR3] at hst4 hrc ⊢;have hTR:(R2++R3).take (R2.length+R3.length)=R2++R3:=List.take_of_length_le (by simp);have hx:AV.agg [I i,AX true G,I at_]=Hi true ⟨i,G,at_⟩:=rfl;by_cases ht0:t=0
     ·have ham:at_=me.length:=by omega
      have hh2:M1 c last t=b:=by rw [hhit,ht0];simp
      rw [hh2] at hst4;cases b with
      | true =>
       rw [if_pos rfl] at hst4;(have fa:=(And.intro e1 hTR);(repeat' first|refine zS CT ?_|refine zS CN ?_|refine zS CL ?_|refine zQ ?_|refine zN ?_;intro K hC hK|refine zM ?_;try clear hK hC K|refine zC ?_ ?_<;>intro hb|refine zK ?_;intro Jo JU JC AH AJ AG)<;>(try clear fa))
       refine hJ3 _ (at_+1,g2+1) (by dsimp only;omega) ⟨by dsimp only;omega,by dsimp only;omega⟩ (by (have fa:=(And.intro hst4 (And.intro (fun x y z=>(@List.append_assoc.{0} Rg x y z).symm) (And.intro @List.length_append.{0} (And.intro hx hTR))));exact C8))
      | false =>
       rw [if_neg (by simp),List.append_nil] at hst4;(have fa:=e1;(repeat' first|refine zS CT ?_|refine zS CN ?_|refine zQ ?_|refine zN ?_;intro K hC hK|refine zM ?_;try clear hK hC K|refine zC ?_ ?_<;>intro hb|refine zK ?_;intro Jo JU JC AH AJ AG)<;>(try clear fa))
       refine hJ3 _ (at_+1,g2) (by dsimp only;omega) ⟨by dsimp only;omega,by dsimp only;omega⟩ (by (have fa:=hst4;exact C8))
     ·have e2:G[at_-1]'(by omega)=c[t-1]'(by omega):=by
       have:=hG1 (t-1) (by omega);simp only [show at_-1=me.length+(t-1) by omega];exact this
      obtain ⟨g',hg'⟩:∃g',c[t-1]'(by omega)=g' :=⟨_,rfl⟩;rw [hg'] at e2;have e3:((at_:Int)-1).toNat=at_-1:=by omega
      have hh2:M1 c last t=(b&& !decide (g=g')):=by
       rw [hhit,decide_eq_true (show 0<t by omega),List.getElem?_eq_getElem (show t-1<c.length by omega),hg'];congr 2;simp [eq_comm]
      rw [hh2] at hst4;have hgA:AZ g= .agg [.v (.int .i64 g.wh), .v (.int .i64 g.kd), .v (.bool g.op)]:=rfl;have hgB:AZ g' = .agg [.v (.int .i64 g'.wh), .v (.int .i64 g'.kd), .v (.bool g'.op)]:=rfl;have hb3:=H6 g g';by_cases hgg:g=g'
      ·rw [decide_eq_true hgg] at hb3 hst4;rw [Bool.not_true,Bool.and_false,if_neg (by simp),List.append_nil] at hst4;(have fa:=(And.intro e1 (And.intro e2 (And.intro e3 (And.intro hTR (And.intro hgA (And.intro hgB hb3))))));(repeat' first|refine zS CT ?_|refine zS CN ?_|refine zS CL ?_|refine zQ ?_|refine zN ?_;intro K hC hK|refine zM ?_;try clear hK hC K|refine zC ?_ ?_<;>intro hb|refine zK ?_;intro Jo JU JC AH AJ AG)<;>(try clear fa))
       refine hJ3 _ (at_+1,g2) (by dsimp only;omega) ⟨by dsimp only;omega,by dsimp only;omega⟩ (by (have fa:=hst4;exact C8))
      ·rw [decide_eq_false hgg] at hb3 hst4;rw [Bool.not_false,Bool.and_true] at hst4;cases b with
       | true =>
        rw [if_pos rfl] at hst4;(have fa:=(And.intro e1 (And.intro e2 (And.intro e3 (And.intro hTR (And.intro hgA (And.intro hgB hb3))))));(repeat' first|refine zS CT ?_|refine zS CN ?_|refine zS CL ?_|refine zQ ?_|refine zN ?_;intro K hC hK|refine zM ?_;try clear hK hC K|refine zC ?_ ?_<;>intro hb|refine zK ?_;intro Jo JU JC AH AJ AG)<;>(try clear fa))
        refine hJ3 _ (at_+1,g2+1) (by dsimp only;omega) ⟨by dsimp only;omega,by dsimp only;omega⟩ (by (have fa:=(And.intro hst4 (And.intro (fun x y z=>(@List.append_assoc.{0} Rg x y z).symm) (And.intro @List.length_append.{0} (And.intro hx hTR))));exact C8))
       | false =>
        rw [if_neg (by simp),List.append_nil] at hst4;(have fa:=(And.intro e1 (And.intro e2 (And.intro e3 (And.intro hgA (And.intro hgB hb3)))));(repeat' first|refine zS CT ?_|refine zS CN ?_|refine zQ ?_|refine zN ?_;intro K hC hK|refine zM ?_;try clear hK hC K|refine zC ?_ ?_<;>intro hb|refine zK ?_;intro Jo JU JC AH AJ AG)<;>(try clear fa))
        refine hJ3 _ (at_+1,g2) (by dsimp only;omega) ⟨by dsimp only;omega,by dsimp only;omega⟩ (by (have fa:=hst4;exact C8))
    ·have hal2:at_=G.length:=by omega
     have hal3:at_-me.length=c.length:=by omega
     rw [hal3,←hst3];(repeat' first|refine zQ ?_|refine zN ?_;intro K hC hK|refine zM ?_;try clear hK hC K|refine zC ?_ ?_<;>intro hb|refine zK ?_;intro Jo JU JC AH AJ AG)
     refine hJ2 _ (n+1,g2) (by dsimp only;omega) (by dsimp only;omega) (by exact C8)
   ·(repeat' first|refine zQ ?_|refine zN ?_;intro K hC hK|refine zM ?_;try clear hK hC K|refine zC ?_ ?_<;>intro hb|refine zK ?_;intro Jo JU JC AH AJ AG)
    obtain rfl:n=cs.length:=by omega
    rw [List.take_length,←hstep];refine hJ _ (i+1,g1) (by dsimp only;omega) (by dsimp only;omega) (by exact CZ)
  ·obtain rfl:i=l.length:=by omega
   (repeat' first|refine zQ ?_|refine zN ?_;intro K hC hK|refine zM ?_;try clear hK hC K|refine zC ?_ ?_<;>intro hb|refine zK ?_;intro Jo JU JC AH AJ AG)
   refine Aa [] ?_ ?_<;>(first|exact AK|refine zE ?_)
 ·have hU:GI s h A l last=[]:=by unfold GI;rw [if_neg ha]
  rw [hU];clear hA;unfold RJ at ha;refine Ba ?_;cases c1:Ch s l h with
  | false =>
   rw [c1] at CF;refine zb Tryz.ntmps28 ?_;let tb:=Ky;let lv:=Ip;(repeat' first|refine zS CF ?_|refine zQ ?_|refine zN ?_;intro K hC hK|refine zM ?_;try clear hK hC K|refine zC ?_ ?_<;>intro hb|refine zK ?_;intro Jo JU JC AH AJ AG)
   refine Aa [] ?_ ?_<;>(first|exact AK|refine zE ?_);exact An.nil _ _
  | true =>
   rw [c1] at CF;cases c2:Am s h with
   | false =>
    rw [c2] at CU;refine zb Tryz.ntmps28 ?_;let tb:=Ky;let lv:=Ip;(repeat' first|refine zS CF ?_|refine zS CU ?_|refine zQ ?_|refine zN ?_;intro K hC hK|refine zM ?_;try clear hK hC K|refine zC ?_ ?_<;>intro hb|refine zK ?_;intro Jo JU JC AH AJ AG)
    refine Aa [] ?_ ?_<;>(first|exact AK|refine zE ?_);exact An.nil _ _
   | true =>
    rw [c2] at CU;rw [c1,c2] at ha;clear c1 c2;obtain ⟨bag,me⟩:=h;dsimp only at *;by_cases c3:0≤last
    ·by_cases c4:last<(bag.length:Int)
     ·have hbl:bag.getD last.toNat 0=bag[last.toNat]'(by omega):=by rw [List.getD_eq_getElem?_getD,List.getElem?_eq_getElem (by omega)];rfl
      have hb0:bag[last.toNat]'(by omega)=0:=by
       rw [←hbl];by_cases h0:bag.getD last.toNat 0=0
       ·exact h0
       ·exact absurd (by rw [decide_eq_true c3,decide_eq_true c4,decide_eq_true h0];rfl) ha
      refine zb Tryz.ntmps28 ?_;let tb:=Ky;let lv:=Ip;(repeat' first|refine zS CF ?_|refine zS CU ?_|refine zQ ?_|refine zN ?_;intro K hC hK|refine zM ?_;try clear hK hC K|refine zC ?_ ?_<;>intro hb|refine zK ?_;intro Jo JU JC AH AJ AG)
      refine Aa [] ?_ ?_<;>(first|exact AK|refine zE ?_);exact An.nil _ _
     ·refine zb Tryz.ntmps28 ?_;let tb:=Ky;let lv:=Ip;(repeat' first|refine zS CF ?_|refine zS CU ?_|refine zQ ?_|refine zN ?_;intro K hC hK|refine zM ?_;try clear hK hC K|refine zC ?_ ?_<;>intro hb|refine zK ?_;intro Jo JU JC AH AJ AG)
      refine Aa [] ?_ ?_<;>(first|exact AK|refine zE ?_);exact An.nil _ _
    ·refine zb Tryz.ntmps28 ?_;let tb:=Ky;let lv:=Ip;(repeat' first|refine zS CF ?_|refine zS CU ?_|refine zQ ?_|refine zN ?_;intro K hC hK|refine zM ?_;try clear hK hC K|refine zC ?_ ?_<;>intro hb|refine zK ?_;intro Jo JU JC AH AJ AG)
     refine Aa [] ?_ ?_<;>(first|exact AK|refine zE ?_);exact An.nil _ _
theorem JG (s:AL) (h:Hd) (A:Fm→List (List Gp)) (l:List Fm) (last:Int) (hf:∀f∈l,f.ks.length≤1000000) (hl:l.length≤1000000) (hs:s.su.length≤1000000) (h1:h.me.length≤1000000) (h2:h.bag.length≤1000000)
  (hA:Ch s l h=true→Am s h=true→∀f∈l,Yx s (A f)∧AM Tryz.prog 88 [AO s,DN false f,Cb false h] (EG false (A f))):AM Tryz.prog 28 [AO s,Bh false l,Cb false h,I last] (N0 false (GI s h A l last)):=E3 (EE (M5 s h A l last hf hl hs h1 h2 hA) fun v hl h=>⟨by rw [h.1];simp only [AV.low,Ye],h.2⟩)
end Go.Proofs.YthblfhgofopcaaaGreat
