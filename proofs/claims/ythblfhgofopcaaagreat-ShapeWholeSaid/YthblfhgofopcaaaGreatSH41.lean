/-
  Parts of the proof: RefR, Aok.
-/
import Derived.Test.YthblfhgofopcaaaGreatSH13
import Derived.Test.YthblfhgofopcaaaGreatSH14
import Derived.Test.YthblfhgofopcaaaGreatSH40
import Derived.Test.YthblfhgofopcaaaGreatSH38
set_option linter.all false
namespace Go.Proofs.YthblfhgofopcaaaGreat
open Go.RowKit
set_option maxRecDepth 100000
set_option maxHeartbeats 2000000
theorem Nq (s:AL) (h:Hd) (A:Fm→List (List Gp)) (l:List Fm) (hl:l.length≤1000000) (hA:∀f∈l,AM Tryz.prog 93 [AO s,DN false f,Cb false h] (EG false (A f))):AM Tryz.prog 100 [AO s,Bh false l,Cb false h] (B (GZ A l)):=by
 refine zb Tryz.ntmps100 ?_;let tb:=ZX;let lv:=WD;(repeat' first | refine zQ ?_ | (refine zN ?_;intro K hC hK) | (refine zM ?_;try clear hK hC K) | (refine zC ?_ ?_<;>intro hb) | (refine zK ?_;intro Jo JU JC AH AJ AG))
 refine Ab l.length (fun k σ=>(∀i,(hi:i<l.length)→i<k→(A l[i]).length=0)∧σ=⟨900,[(1,Bh false l),(3, .ref 0 0 0 0),(5, .ref 1 0 0 0),(7,I k)],[(0, .arr 0 9 [AO s]),(1, .arr 0 2 [Cb false h])]⟩) [(0,0),(16,1)] [(0,0),(1,1)] 0 [1,3,5,7] 900 zf zf ⟨fun i _ h=>absurd h (Nat.not_lt_zero i),by exact zV⟩ ?_;rintro k σ' hk ⟨hR,rfl⟩ J hcJ hJ;by_cases hlt:k<l.length
 ·obtain ⟨f,hfk⟩:∃f,l[k]=f:=⟨_,rfl⟩;have C1:=hA f (by rw [←hfk];exact List.getElem_mem hlt);obtain ⟨c,hc⟩:∃c,A f=c:=⟨_,rfl⟩;rw [hc] at C1;by_cases hn:0<c.length
  ·have hU:GZ A l=true:=List.any_eq_true.2 ⟨f,by rw [←hfk];exact List.getElem_mem hlt,by rw [hc];simpa using hn⟩;(have fa:=(And.intro hfk @Ay);(repeat' first | refine zS C1 ?_ | refine zQ ?_ | (refine zN ?_;intro K hC hK) | (refine zM ?_;try clear hK hC K) | (refine zC ?_ ?_<;>intro hb) | (refine zK ?_;intro Jo JU JC AH AJ AG))<;>(try clear fa))
   refine Aa [] ?_ ?_<;>(first | exact AK | refine zE ?_);rw [hU]
  ·(have fa:=(And.intro hfk @Ay);(repeat' first | refine zS C1 ?_ | refine zQ ?_ | (refine zN ?_;intro K hC hK) | (refine zM ?_;try clear hK hC K) | (refine zC ?_ ?_<;>intro hb) | (refine zK ?_;intro Jo JU JC AH AJ AG))<;>(try clear fa))
   refine hJ _ hlt ⟨fun i hi h2=> ?_,by exact zV⟩;by_cases e:i=k
   ·subst e;rw [hfk,hc];omega
   ·exact hR i hi (by omega)
 ·obtain rfl:k=l.length:=by omega
  have hU:GZ A l=false:=by
   unfold GZ;rw [List.any_eq_false];intro f hf;obtain ⟨i,hi,rfl⟩:=List.mem_iff_getElem.1 hf;have:=hR i hi hi;simp;exact List.eq_nil_of_length_eq_zero this
  (repeat' first | refine zQ ?_ | (refine zN ?_;intro K hC hK) | (refine zM ?_;try clear hK hC K) | (refine zC ?_ ?_<;>intro hb) | (refine zK ?_;intro Jo JU JC AH AJ AG))
  refine Aa [] ?_ ?_<;>(first | exact AK | refine zE ?_);rw [hU]
theorem KV {s:AL} {h:Hd} (hU:Am s h=true):Ag s h=0:=by unfold Am at hU;simp at hU;exact hU.1
theorem TE (s:AL) (h:Hd) (A:Fm→List (List Gp)) (l:List Fm) (hf:∀f∈l,f.ks.length≤1000000) (hl:l.length≤1000000) (hs:s.su.length≤1000000) (h1:h.me.length≤1000000) (h2:h.bag.length≤1000000)
  (hA:A6 s l=0→Am s h=true→∀f∈l,AM Tryz.prog 93 [AO s,DN false f,Cb false h] (EG false (A f))):AM Tryz.prog 34 [AO s,Bh false l,Cb false h] (B (Dn s h A l)):=by
 have CF:=E4 s l hf hl hs;have CU:=Fo s h h1 h2;by_cases c:A6 s l=0
 ·rw [c] at CF;cases d:Am s h with
  | true =>
   have CW:=Nq s h A l hl (hA c d);have hU:Dn s h A l=GZ A l:=by unfold Dn Ch;rw [d,KV d,c];rfl
   rw [d] at CU;rw [hU];refine zb Tryz.ntmps34 ?_;let tb:=Sa;let lv:=Pz;(repeat' first | refine zS CF ?_ | refine zS CU ?_ | refine zS CW ?_ | refine zQ ?_ | (refine zN ?_;intro K hC hK) | (refine zM ?_;try clear hK hC K) | (refine zC ?_ ?_<;>intro hb) | (refine zK ?_;intro Jo JU JC AH AJ AG))
   refine Aa [] ?_ ?_<;>(first | exact AK | refine zE ?_)
  | false =>
   have hU:Dn s h A l=false:=by unfold Dn;rw [d];simp
   rw [d] at CU;rw [hU];refine zb Tryz.ntmps34 ?_;let tb:=Sa;let lv:=Pz;(repeat' first | refine zS CF ?_ | refine zS CU ?_ | refine zQ ?_ | (refine zN ?_;intro K hC hK) | (refine zM ?_;try clear hK hC K) | (refine zC ?_ ?_<;>intro hb) | (refine zK ?_;intro Jo JU JC AH AJ AG))
   refine Aa [] ?_ ?_<;>(first | exact AK | refine zE ?_)
 ·have e:(A6 s l==0)=false:=by simp [c]
  have hU:Dn s h A l=false:=by unfold Dn Ch;simp [c]
  rw [hU];refine zb Tryz.ntmps34 ?_;let tb:=Sa;let lv:=Pz;(have fa:=e;(repeat' first | refine zS CF ?_ | refine zQ ?_ | (refine zN ?_;intro K hC hK) | (refine zM ?_;try clear hK hC K) | (refine zC ?_ ?_<;>intro hb) | (refine zK ?_;intro Jo JU JC AH AJ AG))<;>(try clear fa))
  refine Aa [] ?_ ?_<;>(first | exact AK | refine zE ?_)
theorem OC {s:AL} {bag:List Int} {me:List Gp} (hh:Ag s ⟨bag,me⟩=0) (hn:Am s ⟨bag,me⟩=false) {k:Nat} (hk:k<bag.length):Am s ⟨Aq bag k,me⟩=decide ((Bi bag me).getD k 0<s.co):=by
 have ho:=DP hh;have b:=ho.bag;have hlo:=ho.lo;have hhi:=ho.hi;have hsum:bag.sum=3*(s.me-me.length)+1:=by
  have h3:¬bag.sum=3*(s.me-me.length)+2:=fun e=>by
   unfold Am at hn;rw [hh,e] at hn;simp at hn
  dsimp only at hlo hhi;omega
 have hs1:(Aq bag k).sum=3*(s.me-me.length)+2:=by rw [M3 (by omega) (by omega)];omega
 have hin:∀g∈me,D8 bag.length (AI g.wh g.kd):=fun g hg=>b.inb hg
 have hT:=FD me bag hin;have hT1:=FD me (Aq bag k) (fun g hg=>by rw [Cy];exact hin g hg);have hi:=Gx (bag:=bag) (z:=(k:Int)) (by omega) (by omega);have htot:∀i,(Bi (Aq bag k) me).getD i 0=(Bi bag me).getD i 0+if (k:Int)=(i:Int) then 1 else 0:=fun i=>by rw [hT1,hT,hi];omega
 have hle:∀i,(Bi bag me).getD i 0≤s.co:=fun i=>by
  have V:=(AU ho.va).co;exact Lu (P:=fun z=>z≤s.co) (fun z hz=>ho.tot z hz) (by omega) i
 by_cases hc:(Bi bag me).getD k 0<s.co
 ·rw [decide_eq_true hc];have hcnt:Be s (Aq bag k)=0:=by
   unfold Be;rw [if_neg (by rw [Cy];have:=ho.ln;dsimp only at this;omega),if_neg];intro hq;obtain ⟨z,hz,hf⟩:=List.any_eq_true.1 hq;obtain ⟨i,hil,rfl⟩:=List.mem_iff_getElem.1 hz;have e1:(Aq bag k).getD i 0=(Aq bag k)[i]:=by simp [hil]
   rw [←e1,hi] at hf;have hil' :i<bag.length:=by rw [Cy] at hil;exact hil
   have e2:bag.getD i 0=bag[i]:=by simp [hil']
   have h3:=ho.rg bag[i] (List.getElem_mem hil');have h4:=FG me k;have h5:=hT k;unfold F8 at hf;simp only [Bool.or_eq_true,decide_eq_true_eq] at hf;by_cases hki:(k:Int)=(i:Int)
   ·rw [if_pos hki] at hf;obtain rfl:k=i:=by omega
    omega
   ·rw [if_neg hki] at hf;omega
  have hany:(Bi (Aq bag k) me).any (fun z=>decide (s.co<z))=false:=D0 fun i hil=>by
   have e1:(Bi (Aq bag k) me).getD i 0=(Bi (Aq bag k) me)[i]:=by simp [hil]
   rw [←e1,htot];have:=hle i;simp only [decide_eq_false_iff_not];by_cases hki:(k:Int)=(i:Int)
   ·rw [if_pos hki];obtain rfl:k=i:=by omega
    omega
   ·rw [if_neg hki];omega
  have hm:=ho.mm;have hml:=ho.ml;dsimp only at hm hml;have:Ag s ⟨Aq bag k,me⟩=0:=by
   unfold Ag;dsimp only;rw [if_neg (by simp [ho.va]),if_neg (by simp [hcnt]),if_neg (by simp [hml]),hany,if_neg (by simp),if_neg (by omega),if_neg (by omega)]
  unfold Am;rw [this,decide_eq_true rfl,decide_eq_true hs1];rfl
 ·rw [decide_eq_false hc];have hx:(Bi (Aq bag k) me).getD k 0=s.co+1:=by rw [htot,if_pos rfl];have:=hle k;omega
  have hkl:k<(Bi (Aq bag k) me).length:=by rw [DV,Cy];exact hk
  have hany:(Bi (Aq bag k) me).any (fun z=>decide (s.co<z))=true:=EX hkl (by
   have e1:(Bi (Aq bag k) me).getD k 0=(Bi (Aq bag k) me)[k]:=by simp [hkl]
   rw [←e1,hx];simp;omega)
  have:Ag s ⟨Aq bag k,me⟩≠0:=fun e=>by
   have h1:(Bi (Aq bag k) me)[k]≤s.co:=(DP e).tot _ (List.getElem_mem hkl);have e1:(Bi (Aq bag k) me).getD k 0=(Bi (Aq bag k) me)[k]:=by simp [hkl]
   rw [←e1,hx] at h1;omega
  unfold Am;rw [decide_eq_false this];rfl
set_option maxHeartbeats 4000000 in
theorem QS (s:AL) (h:Hd) (l:List Fm) (hf:∀f∈l,f.ks.length≤1000000) (hl:l.length≤1000000) (hs:s.su.length≤1000000) (h1:h.me.length≤1000000) (h2:h.bag.length≤1000000) :
  AM Tryz.prog 37 [AO s,Bh false l,Cb false h] (AN true (DC s h l fun k=>Dn s ⟨Aq h.bag k,h.me⟩ (Hf s ⟨Aq h.bag k,h.me⟩) l)):=by
 have CF:=E4 s l hf hl hs;have CH:=FQ s h h1;have CU:=Fo s h h1 h2;by_cases c:A6 s l=0
 ·rw [c] at CF;by_cases c2:Ag s h=0
  ·rw [c2] at CH;cases d:Am s h with
   | true =>
    have hU:(DC s h l fun k=>Dn s ⟨Aq h.bag k,h.me⟩ (Hf s ⟨Aq h.bag k,h.me⟩) l)=[]:=by unfold DC;rw [if_neg (by simp [d])]
    rw [d] at CU;rw [hU];refine Ba ?_;refine zb Tryz.ntmps37 ?_;let tb:=Pw;let lv:=L8;(have fa:= @bne_self_eq_false.{0};(repeat' first | refine zS CF ?_ | refine zS CH ?_ | refine zS CU ?_ | refine zQ ?_ | (refine zN ?_;intro K hC hK) | (refine zM ?_;try clear hK hC K) | (refine zC ?_ ?_<;>intro hb) | (refine zK ?_;intro Jo JU JC AH AJ AG))<;>(try clear fa))
    refine Aa [] ?_ ?_<;>(first | exact AK | refine zE ?_);exact An.nil _ _
   | false =>
    rw [d] at CU;have hfa:Ch s l h=true:=by unfold Ch;rw [c,c2];rfl
    have hU:(DC s h l fun k=>Dn s ⟨Aq h.bag k,h.me⟩ (Hf s ⟨Aq h.bag k,h.me⟩) l)=Gv (fun k=>Dn s ⟨Aq h.bag k,h.me⟩ (Hf s ⟨Aq h.bag k,h.me⟩) l) h.bag.length:=by unfold DC;rw [if_pos ⟨hfa,d⟩]
    rw [hU];clear hU;have ho:=DP c2;have hb:=ho.bag;have hco:=(AU ho.va).co;have hrg:=ho.rg;have hpl:=DI ho.va;have hln:=ho.ln;have CT:=Mr s h hb;have CC:=Ej h h2 h1;obtain ⟨_,_,hfo⟩:=Ht c;have hwins:∀k,k<h.bag.length→Dn s ⟨Aq h.bag k,h.me⟩ (Hf s ⟨Aq h.bag k,h.me⟩) l=(decide ((Bi h.bag h.me).getD k 0<s.co)&&GZ (Hf s ⟨Aq h.bag k,h.me⟩) l):=fun k hk=>by
     have hr:=OC (s:=s) (bag:=h.bag) (me:=h.me) c2 d hk;unfold Dn Ch;rw [hr,c];by_cases hx:(Bi h.bag h.me).getD k 0<s.co
     ·rw [decide_eq_true hx] at hr ⊢;rw [KV hr];rfl
     ·rw [decide_eq_false hx];simp
    have CW:∀k,k<h.bag.length→(Bi h.bag h.me).getD k 0<s.co→AM Tryz.prog 100 [AO s,Bh false l,Cb false ⟨Aq h.bag k,h.me⟩] (B (GZ (Hf s ⟨Aq h.bag k,h.me⟩) l)):=fun k hk hx =>
     Nq s _ _ l hl fun f hfm=>Kp s f _ (hfo f hfm) (by rw [OC c2 d hk,decide_eq_true hx])
    have hle:∀i,(Bi h.bag h.me).getD i 0≤s.co:=fun i=>Lu (P:=fun z=>z≤s.co) (fun z hz=>ho.tot z hz) (by omega) i
    have hTl:=DV h.me h.bag;obtain ⟨T,hT⟩:∃T,Bi h.bag h.me=T:=⟨_,rfl⟩;rw [hT] at CT hwins CW hle hTl;obtain ⟨W,hW⟩:∃W:Nat→Bool,(fun k:Nat=>Dn s ⟨Aq h.bag k,h.me⟩ (Hf s ⟨Aq h.bag k,h.me⟩) l)=W:=⟨_,rfl⟩;rw [hW];replace hwins:∀k,k<h.bag.length→W k=(decide (T.getD k 0<s.co)&&GZ (Hf s ⟨Aq h.bag k,h.me⟩) l):=fun k hk=>by rw [←hW];exact hwins k hk
    clear hb ho d c2 hfa hT hW;obtain ⟨bag,me⟩:=h;dsimp only at *;have hTT:T.take bag.length=T:=List.take_of_length_le (by omega);have hTT2:bag.length≤T.length:=by omega
    refine zb Tryz.ntmps37 ?_;let tb:=Pw;let lv:=L8;(have fa:= @bne_self_eq_false.{0};(repeat' first | refine zS CF ?_ | refine zS CH ?_ | refine zS CU ?_ | refine zQ ?_ | (refine zN ?_;intro K hC hK) | (refine zM ?_;try clear hK hC K) | (refine zC ?_ ?_<;>intro hb) | (refine zK ?_;intro Jo JU JC AH AJ AG))<;>(try clear fa))
    (have fa:=(And.intro hTT hTT2);(repeat' first | refine zO CT ?_ | refine zQ ?_ | (refine zN ?_;intro K hC hK) | (refine zM ?_;try clear hK hC K) | (refine zC ?_ ?_<;>intro hb) | (refine zK ?_;intro Jo JU JC AH AJ AG))<;>(try clear fa))
    refine A8 (BY 7 500 0 1 (by rfl) (by rfl)) (α:=Nat×Nat) (fun a=>[(1,Bh false l),(3, .ref 0 0 0 0),(5, .ref 1 0 0 0),(7, .rsl 2 a.2 0 (Gv W a.1).length),(8,AN true T),(9,I a.1)]) (fun a=>[(0, .arr 0 9 [AO s]),(1, .arr 0 2 [Cb false ⟨bag,me⟩]),(2, .arr a.2 1 ((Gv W a.1).map I))])
     (fun a=>bag.length-a.1) (fun a=>a.1≤bag.length) [(0,0),(16,1),(500,2)] [(0,0),(1,1),(2,2)] 1 [1,3,5,7,8,9] 900 zf zf (0,0) (Nat.zero_le _) (by (have fa:=(And.intro @Dg.eq_1 (And.intro (And.intro @Ci.eq_1 @Ci.eq_2) (And.intro (And.intro @Gv.eq_1 @Gv.eq_2) (And.intro hTT hTT2))));exact CZ)) ?_
    rintro ⟨k,g⟩ hk J hcJ hJ;dsimp only at hk hJ ⊢;have hwl:=KA W k;by_cases hlt:k<bag.length
    ·have hws:Gv W (k+1)=Gv W k++if W k=true then [(k:Int)] else []:=rfl
     have hWk:=hwins k hlt;have hge:T.getD k 0=T[k]:=by simp [show k<T.length by omega]
     have hlek:=hle k;have CWk:=CW k hlt;rw [hge] at hWk hlek CWk;obtain ⟨t,ht⟩:∃t,T[k]=t:=⟨_,rfl⟩;rw [ht] at hWk hlek CWk;obtain ⟨L,hL⟩:∃L,Gv W k=L:=⟨_,rfl⟩;rw [hL] at hwl hws ⊢;have hTL:L.take L.length=L:=List.take_length;by_cases htc:t=s.co
     ·have hWf:W k=false:=by rw [hWk,decide_eq_false (by omega)];rfl
      rw [hWf,if_neg (by simp),List.append_nil] at hws;(have fa:=(And.intro ht htc);(repeat' first | refine zQ ?_ | (refine zN ?_;intro K hC hK) | (refine zM ?_;try clear hK hC K) | (refine zC ?_ ?_<;>intro hb) | (refine zK ?_;intro Jo JU JC AH AJ AG))<;>(try clear fa))
      exact hJ _ (k+1,g) (by dsimp only;omega) (by dsimp only;omega) (by (have fa:=hws;exact C8))
     ·have htl:t<s.co:=by omega
      have CWk:=CWk htl;rw [decide_eq_true htl,Bool.true_and] at hWk;rw [←hWk] at CWk;obtain ⟨z,hz⟩:∃z,bag[k]=z:=⟨_,rfl⟩;have hzb:=hrg z (by rw [←hz];exact List.getElem_mem hlt);have hinc:(bag.map I).set k (I (z+1))=(Aq bag k).map I:=by unfold Aq;rw [List.map_set];simp [hlt,hz]
      have hil:=Cy bag (k:Int);obtain ⟨Y,hY⟩:∃Y,Aq bag k=Y:=⟨_,rfl⟩;rw [hY] at hinc hil CWk;have hTY:Y.take bag.length=Y:=List.take_of_length_le (by omega);have hTY2:bag.length≤Y.length:=by omega
      have hTm:me.take me.length=me:=List.take_length;cases w:W k with
      | true =>
       rw [w] at CWk;rw [w,if_pos rfl] at hws;(have fa:=(And.intro ht (And.intro hz (And.intro hinc (And.intro hTY (And.intro hTY2 (And.intro hTm (And.intro hTL @Ay)))))));(repeat' first | refine zO CC ?_ | refine zS CWk ?_ | refine zQ ?_ | (refine zN ?_;intro K hC hK) | (refine zM ?_;try clear hK hC K) | (refine zC ?_ ?_<;>intro hb) | (refine zK ?_;intro Jo JU JC AH AJ AG))<;>(try clear fa))
       exact hJ _ (k+1,g+1) (by dsimp only;omega) (by dsimp only;omega) (by (have fa:=(And.intro hws @List.length_append.{0});exact C8))
      | false =>
       rw [w] at CWk;rw [w,if_neg (by simp),List.append_nil] at hws;(have fa:=(And.intro ht (And.intro hz (And.intro hinc (And.intro hTY (And.intro hTY2 (And.intro hTm (And.intro hTL @Ay)))))));(repeat' first | refine zO CC ?_ | refine zS CWk ?_ | refine zQ ?_ | (refine zN ?_;intro K hC hK) | (refine zM ?_;try clear hK hC K) | (refine zC ?_ ?_<;>intro hb) | (refine zK ?_;intro Jo JU JC AH AJ AG))<;>(try clear fa))
       exact hJ _ (k+1,g) (by dsimp only;omega) (by dsimp only;omega) (by (have fa:=hws;exact C8))
    ·obtain rfl:k=bag.length:=by omega
     (repeat' first | refine zQ ?_ | (refine zN ?_;intro K hC hK) | (refine zM ?_;try clear hK hC K) | (refine zC ?_ ?_<;>intro hb) | (refine zK ?_;intro Jo JU JC AH AJ AG))
     refine Aa [] ?_ ?_<;>(first | exact AK | refine zE ?_)
  ·have e:(Ag s h != 0)=true:=by simp [c2]
   have hU:(DC s h l fun k=>Dn s ⟨Aq h.bag k,h.me⟩ (Hf s ⟨Aq h.bag k,h.me⟩) l)=[]:=by unfold DC Ch;rw [if_neg (by simp [c2])]
   rw [hU];refine Ba ?_;refine zb Tryz.ntmps37 ?_;let tb:=Pw;let lv:=L8;(have fa:=(And.intro e @bne_self_eq_false.{0});(repeat' first | refine zS CF ?_ | refine zS CH ?_ | refine zQ ?_ | (refine zN ?_;intro K hC hK) | (refine zM ?_;try clear hK hC K) | (refine zC ?_ ?_<;>intro hb) | (refine zK ?_;intro Jo JU JC AH AJ AG))<;>(try clear fa))
   refine Aa [] ?_ ?_<;>(first | exact AK | refine zE ?_);exact An.nil _ _
 ·have e:(A6 s l != 0)=true:=by simp [c]
  have hU:(DC s h l fun k=>Dn s ⟨Aq h.bag k,h.me⟩ (Hf s ⟨Aq h.bag k,h.me⟩) l)=[]:=by unfold DC Ch;rw [if_neg (by simp [c])]
  rw [hU];refine Ba ?_;refine zb Tryz.ntmps37 ?_;let tb:=Pw;let lv:=L8;(have fa:=e;(repeat' first | refine zS CF ?_ | refine zQ ?_ | (refine zN ?_;intro K hC hK) | (refine zM ?_;try clear hK hC K) | (refine zC ?_ ?_<;>intro hb) | (refine zK ?_;intro Jo JU JC AH AJ AG))<;>(try clear fa))
  refine Aa [] ?_ ?_<;>(first | exact AK | refine zE ?_);exact An.nil _ _
end Go.Proofs.YthblfhgofopcaaaGreat

namespace Go.Proofs.YthblfhgofopcaaaGreat
section
variable {n:Nat} {rn:Int→Bool}
theorem OR (hr:C7 n rn):∀(f m:Nat) (bag:List Int),Bg n bag→bag.sum≤3*(m:Int)+2→(Cc rn f bag).length≤2 ^ m
 | 0,m,bag,_,_=>Nat.zero_le _
 | f+1,m,bag,hb,hs=>by
  by_cases hk:AB bag=bag.length
  ·unfold Cc;rw [if_pos hk];exact Nat.one_le_two_pow
  ·have hkl:AB bag<n:=by have:=BG bag;have:=hb.1;omega
   rw [La rn f bag hk];have step:∀g∈ES rn (AB bag),∀out,(Co rn f bag out g).length≤out.length+(if m=0 then 0 else 2 ^ (m-1)):=fun g hg out=>by
    have hM:=KK hg hkl;have hin:D8 bag.length (AI g.wh g.kd):=by rw [hb.1];exact hM.tiles hr
    have hl3:=hM.len;unfold Co;rcases C5 _ bag hin hb.2 with ⟨h1,h2⟩ | ⟨h1,_⟩
    ·rw [h1];have hbd:=hb.dec (by rw [←hb.1];exact hin) h2;have hsum:=Ck _ bag hin;have h0:=DQ hbd.2;cases m with
     | zero=>exfalso;omega
     | succ m =>
      have ih:=OR hr f m _ hbd (by omega);refine Nat.le_trans (DR _ _) ?_;rw [if_neg (by omega)];simpa using ih
    ·rw [h1];exact Nat.le_add_right _ _
   have h2:2*(if m=0 then 0 else 2 ^ (m-1))≤2 ^ m:=by
    cases m with
    | zero=>simp
    | succ m=>rw [if_neg (by omega),Nat.pow_succ];simp;omega
   cases hc:rn (AB bag) with
   | true =>
    have hG:ES rn (AB bag)=[gp 2 (AB bag),gp 1 (AB bag)]:=by simp [ES,hc]
    rw [hG] at step ⊢;have s1:=step (gp 2 (AB bag)) (by simp) [];have s2:=step (gp 1 (AB bag)) (by simp) (Co rn f bag [] (gp 2 (AB bag)));simp only [List.foldl_cons,List.foldl_nil];simp only [List.length_nil] at s1;omega
   | false =>
    have hG:ES rn (AB bag)=[gp 2 (AB bag)]:=by simp [ES,hc]
    rw [hG] at step ⊢;have s1:=step (gp 2 (AB bag)) (by simp) [];simp only [List.foldl_cons,List.foldl_nil];simp only [List.length_nil] at s1;omega
theorem R0 (hr:C7 n rn) {f:Nat} {bag:List Int} (hb:Bg n bag) (hs:bag.sum≤14):(Eg rn f bag).length≤bag.length*16:=by
 have key:∀k,k≤bag.length→((List.range k).foldl (Dh rn f bag) []).length≤k*16:=fun k=>by
  induction k with
  | zero=>intro _;simp
  | succ k ih =>
   intro hk;have ih:=ih (by omega);rw [Sm];obtain ⟨o,ho⟩:∃o,(List.range k).foldl (Dh rn f bag) []=o:=⟨_,rfl⟩;rw [ho] at ih ⊢;unfold Dh;split
   ·omega
   ·have hin:D8 bag.length [(k:Int),(k:Int)]:=fun z hz=>by simp at hz;omega
    rcases C5 _ bag hin hb.2 with ⟨h1,h2⟩ | ⟨h1,_⟩
    ·rw [h1];have hbd:=hb.dec (by rw [←hb.1];exact hin) h2;have hsum:=Ck _ bag hin;have hm:=OR hr f 4 _ hbd (by simp at hsum;omega);have:=DR (g:=gp 4 k) (Cc rn f (Ah bag [(k:Int),(k:Int)])) o;dsimp only;omega
    ·rw [h1];dsimp only;omega
 exact key bag.length (Nat.le_refl _)
end
theorem Ey {s:AL} {w k:Int} (hw:w=2∨w=4∨w=5) (h0:0≤k) (h1:k<AY s):Ak s w k=0:=by
 unfold Ak;rw [if_neg (by omega),if_neg (by omega),if_neg (by omega)]
theorem X9 {s:AL} {n:Nat} (hn:(n:Int)=AY s) {bag:List Int} {x:List Gp} (h:Hu n (AT s) bag x):∀g∈x,Ak s g.wh g.kd=0:=fun g hg=>by
 rcases h.me g hg with h | h
 ·obtain ⟨_,h0,h1,h2⟩:=h;rcases h2 with e | ⟨e,hr⟩
  ·rw [e];exact Ey (.inl rfl) h0 (by omega)
  ·unfold Ak;rw [e,if_neg (by omega),if_neg (by omega),if_neg (by simp [hr])]
 ·obtain ⟨_,h0,h1,h2⟩:=h;rw [h2];exact Ey (.inr (.inl rfl)) h0 (by omega)
theorem UP {bag:List Int} {g:Gp}:∀{k:Nat},g∈DH bag k→∃j:Nat,j<k∧g=gp 5 j
 | 0,h=>by cases h
 | k+1,h=>by
  rw [DH] at h;rcases List.mem_append.1 h with h | h
  ·obtain ⟨j,hj,e⟩:=UP h;exact ⟨j,by omega,e⟩
  ·exact ⟨k,by omega,List.eq_of_mem_replicate h⟩
theorem UI {bag:List Int} (hb:∀i,0≤bag.getD i 0):∀k,k≤bag.length→((DH bag k).length:Int)=(bag.take k).sum
 | 0,_=>by simp [DH]
 | k+1,h=>by
  have ih:=UI hb k (by omega);have h0:=hb k;rw [DH,List.length_append,List.length_replicate,D9 bag (by omega)];have e:bag.getD k 0=bag[k]'(by omega):=by simp [show k<bag.length by omega]
  rw [e] at h0 ⊢;omega
theorem Rp {bag:List Int} {g:Gp}:∀{k:Nat},g∈ET bag k→∃j:Nat,j<k∧(g=gp 5 j∨g=gp 4 j)
 | 0,h=>by cases h
 | k+1,h=>by
  rw [ET] at h;rcases List.mem_append.1 h with h | h
  ·obtain ⟨j,hj,e⟩:=Rp h;exact ⟨j,by omega,e⟩
  ·split at h
   ·simp at h;exact ⟨k,by omega, .inl h⟩
   ·split at h
    ·simp at h;exact ⟨k,by omega, .inr h⟩
    ·cases h
theorem Qr {bag:List Int} {g:Gp}:∀{k:Nat},g∈FB bag k→∃j:Nat,j<k∧g=gp 4 j
 | 0,h=>by cases h
 | k+1,h=>by
  rw [FB] at h;rcases List.mem_append.1 h with h | h
  ·obtain ⟨j,hj,e⟩:=Qr h;exact ⟨j,by omega,e⟩
  ·exact ⟨k,by omega,List.eq_of_mem_replicate h⟩
theorem Yd {bag:List Int} (hb:∀i,0≤bag.getD i 0) (he:∀i,i<bag.length→bag.getD i 0 % 2=0):∀k,k≤bag.length→2*((FB bag k).length:Int)=(bag.take k).sum
 | 0,_=>by simp [FB]
 | k+1,h=>by
  have ih:=Yd hb he k (by omega);have h0:=hb k;have h1:=he k (by omega);rw [FB,List.length_append,List.length_replicate,D9 bag (by omega)];have e:bag.getD k 0=bag[k]'(by omega):=by simp [show k<bag.length by omega]
  rw [e] at h0 h1 ⊢;omega
theorem Tx {bag:List Int} (hb:∀i,0≤bag.getD i 0) (he:∀i,i<bag.length→bag.getD i 0≤2):∀k,k≤bag.length→(bag.take k).sum≤2*((ET bag k).length:Int)
 | 0,_=>by simp [ET]
 | k+1,h=>by
  have ih:=Tx hb he k (by omega);have h0:=hb k;have h1:=he k (by omega);rw [ET,List.length_append,D9 bag (by omega)];have e:bag.getD k 0=bag[k]'(by omega):=by simp [show k<bag.length by omega]
  rw [e] at h0 h1 ⊢;split
  ·simp;omega
  ·split
   ·simp;omega
   ·simp;omega
theorem Qq (l:List (List Gp)):∃S:List (List Gp),S.Perm l∧S.Pairwise fun a b=>BL a b≤0:=by
 refine ⟨l.mergeSort fun a b=>decide (BL a b≤0),List.mergeSort_perm ..,?_⟩;refine (List.pairwise_mergeSort (fun a b c h1 h2=> ?_) (fun a b=> ?_) l).imp fun h=>by simpa using h
 ·simp only [decide_eq_true_eq] at *;exact (En h1 h2).1
 ·have:=Dy a b;simp only [Bool.or_eq_true,decide_eq_true_eq];omega
theorem J8 (s:AL):Yx s []:=⟨by simp,fun x h=>by cases h⟩
theorem PH {s:AL} {x:List Gp} (h0:0<x.length) (h1:x.length≤100) (h2:∀g∈x,Ak s g.wh g.kd=0):Yx s [x]:=⟨by simp,fun y h=>by simp at h;subst h;exact ⟨h0,h1,h2⟩⟩
theorem Nm {s:AL} {f:Fm} {h:Hd} (hf:Az s f=0) (hU:Am s h=true):Yx s (Hf s h f):=by
 obtain ⟨ho,hsum⟩:=Pt hU;have F:=Nf hf;have V:=AU ho.va;have hme:=V.me;have hco:=V.co;have hmm:=ho.mm;obtain ⟨b1,b2,b3⟩:=Mx ho.va ho.cn;have hK:AY s≤60:=by have:=Bd s;omega
 have nw:=F.nw;have hw:=F.wh;unfold Cs at nw;have hr:C7 h.bag.length (AT s):=fun k h=>by have:=Ct h;omega
 have hbg:Bg h.bag.length h.bag:=⟨rfl,fun i=>(b1 i).1⟩;have hb0:∀i,0≤h.bag.getD i 0:=fun i=>(b1 i).1
 unfold Hf;by_cases hm:(h.me.length:Int)≤He s f
 ·rw [if_pos hm];unfold He at hm;have sgl1:Yx s [Hp h.bag]:=by
   have hl:=UI hb0 h.bag.length (Nat.le_refl _);rw [List.take_length] at hl;refine PH (by unfold Hp;omega) (by unfold Hp;omega) fun g hg=> ?_
   obtain ⟨j,hj,rfl⟩:=UP hg;exact Ey (.inr (.inr rfl)) (by simp) (by simp;omega)
  unfold QP;have hw' :f.wh=1∨f.wh=2∨f.wh=3∨f.wh=4∨f.wh=5∨f.wh=6:=by omega
  rcases hw' with hw | hw | hw | hw | hw | hw<;>rw [hw] at hm ⊢
  ·rw [if_pos rfl];refine ⟨Nat.le_trans (R0 hr hbg (by omega)) (by omega),fun x hx=> ?_⟩;have hx:=((Fb hr hbg (f:=20) (by omega)).2 x).1 hx;have hl:=hx.len hr hbg;have hp:=hx.pr;have:x.countP (fun g=>g.wh==4)≤x.length:=List.countP_le_length;exact ⟨by omega,by omega,X9 (by omega) hx⟩
  ·rw [if_neg (by decide),if_pos rfl];unfold EW;split
   ·exact J8 s
   ·rename_i hb;have he:∀i,i<h.bag.length→h.bag.getD i 0 % 2=0:=fun i hi=>by
     have e:h.bag.getD i 0=h.bag[i]:=by simp [hi]
     have:Iy f.ag h.bag[i]=false:=by
      cases hc:Iy f.ag h.bag[i] with
      | false=>rfl
      | true=>exact absurd (EX hi hc) hb
     unfold Iy at this;simp only [Bool.or_eq_false_iff,decide_eq_false_iff_not] at this;rw [e];omega
    have hl:=Yd hb0 he h.bag.length (Nat.le_refl _);rw [List.take_length] at hl;refine PH (by unfold g7;omega) (by unfold g7;omega) fun g hg=> ?_
    obtain ⟨j,hj,rfl⟩:=Qr hg;exact Ey (.inr (.inl rfl)) (by simp) (by simp;omega)
  ·rw [if_neg (by decide),if_neg (by decide),if_pos rfl];unfold I9;split
   ·rename_i hg;have hg:=IV.1 hg;have hl:=Tx hb0 (fun i hi=>(hg i hi).2) h.bag.length (Nat.le_refl _);rw [List.take_length] at hl;have hl2:=NL h.bag h.bag.length;have hs:=(BV (ET h.bag h.bag.length)).length_eq;refine PH (by omega) (by omega) fun g hg=> ?_
    obtain ⟨j,hj,e⟩:=Rp ((BV _).subset hg);rcases e with rfl | rfl
    ·exact Ey (.inr (.inr rfl)) (by simp) (by simp;omega)
    ·exact Ey (.inr (.inl rfl)) (by simp) (by simp;omega)
   ·exact J8 s
  ·rw [if_neg (by decide),if_neg (by decide),if_neg (by decide),if_pos rfl];unfold Gm;split
   ·exact sgl1
   ·exact J8 s
  ·rw [if_neg (by decide),if_neg (by decide),if_neg (by decide),if_neg (by decide),if_pos rfl];have h9:s.su=[9,9,9]:=by
    by_cases h:s.su=[9,9,9]
    ·exact h
    ·exact absurd (.inr (.inr (.inr (.inr (.inl ⟨hw, .inl h⟩))))) nw
   have h27:27≤h.bag.length:=by
    have h1:=F1 ho.va;have h2:=V.wi;have h3:=V.dr;have:AQ s=s.wi+s.dr+27:=by unfold AQ;rw [h9];rfl
    omega
   obtain ⟨S,p1,p2⟩:=Qq (Ln (AT s) 20 JR h.bag);have e:=X6 hr hbg (by omega) (fun w hw=>by
    obtain ⟨a,b,c,rfl,ha,hb,hc⟩:=Gq w hw
    exact ⟨Qf ha hb hc,SW ha hb hc h27⟩) (fun a ha b hb e=>Td a ha b hb e) p1 p2
   rw [←e];have hW:∀w∈Au,(HK (AT s) 20 JR h.bag w).length≤960∧∀x∈HK (AT s) 20 JR h.bag w,0<x.length∧x.length≤100∧∀g∈x,Ak s g.wh g.kd=0:=fun w hw=>by
    obtain ⟨a,b,c,rfl,ha,hb,hc⟩:=Gq w hw;have hin:=SW (n:=h.bag.length) ha hb hc h27;have hnl:=P0 a b c;unfold HK;rcases C5 _ h.bag hin hb0 with ⟨h1,h2⟩ | ⟨h1,_⟩
    ·rw [h1];dsimp only;have hbd:=hbg.dec hin h2;have hsum2:=Ck _ h.bag hin;refine ⟨?_,fun x hx=> ?_⟩
     ·rw [List.length_map];refine Nat.le_trans (R0 hr hbd (by omega)) ?_;rw [Bn];omega
     ·obtain ⟨l,hl,rfl⟩:=List.mem_map.1 hx;have hx:=((Fb hr hbd (f:=20) (by omega)).2 l).1 hl;have hll:=hx.len hr hbd;have hsl:(KZ (JR [a,b,c])).length=9:=rfl;have hap:(l++KZ (JR [a,b,c])).length=l.length+9:=by rw [List.length_append,hsl]
      have hp:=hx.pr;have hcl:l.countP (fun g=>g.wh==4)≤l.length:=List.countP_le_length;refine ⟨by rw [hap];omega,by rw [hap];omega,fun g hg=> ?_⟩;rcases List.mem_append.1 hg with hg | hg
      ·exact X9 (by omega) hx g hg
      ·unfold KZ at hg;obtain ⟨z,hz,rfl⟩:=List.mem_map.1 hg;have:=hin z hz;show Ak s 5 z=0;exact Ey (.inr (.inr rfl)) this.1 (by omega)
    ·rw [h1];exact ⟨by simp,fun x hx=>by cases hx⟩
   refine ⟨?_,fun x hx=> ?_⟩
   ·rw [p1.length_eq];unfold Ln;have:∀l:List (List Int),(∀w∈l,w∈Au)→(l.flatMap (HK (AT s) 20 JR h.bag)).length≤l.length*960:=fun l=>by
     induction l with
     | nil=>intro _;simp
     | cons w l ih =>
      intro hl;have h1:=(hW w (hl w (by simp))).1;have h2:=ih fun x hx=>hl x (by simp [hx])
      rw [List.flatMap_cons,List.length_append,List.length_cons,Nat.succ_mul];omega
    have:=this Au (fun _ h=>h);rw [OT] at this;omega
   ·have:=p1.subset hx;unfold Ln at this;obtain ⟨w,hw,hx⟩:=List.mem_flatMap.1 this;exact (hW w hw).2 x hx
  ·rw [if_neg (by decide),if_neg (by decide),if_neg (by decide),if_neg (by decide),if_neg (by decide)];unfold Ni;split
   ·exact sgl1
   ·exact J8 s
 ·rw [if_neg hm];exact J8 s
end Go.Proofs.YthblfhgofopcaaaGreat
