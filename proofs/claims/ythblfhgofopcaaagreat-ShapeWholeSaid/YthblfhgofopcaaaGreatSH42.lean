/-
  Parts of the proof: RefQ, KOrd, KitC.
-/
import Derived.Test.YthblfhgofopcaaaGreatSH13
import Derived.Test.YthblfhgofopcaaaGreatSH14
import Derived.Test.YthblfhgofopcaaaGreatSH41
import Derived.Test.YthblfhgofopcaaaGreatSH38
import Derived.Test.YthblfhgofopcaaaGreatSH39
import Derived.Test.YthblfhgofopcaaaGreatSH40
set_option linter.all false
namespace Go.Proofs.YthblfhgofopcaaaGreat
open Go.RowKit
set_option maxRecDepth 100000
set_option maxHeartbeats 2000000
theorem gB {s:AL} {g:Gp} (hK:AY s≤1000) (h:Ak s g.wh g.kd=0):0≤g.kd∧g.kd≤1000:=by
 unfold Ak at h;repeat' split at h
 all_goals first
  | omega
  | (simp at *;omega)
  | trace_state
set_option maxHeartbeats 8000000 in
theorem NK (s:AL) (h:Hd) (A:Fm→List (List Gp)) (l:List Fm) (last:Int) (hf:∀f∈l,f.ks.length≤1000000) (hl:l.length≤1000000) (hs:s.su.length≤1000000) (h1:h.me.length≤1000000) (h2:h.bag.length≤1000000)
  (hA:A6 s l=0→Am s h=true→∀f∈l,Yx s (A f)∧AM Tryz.prog 93 [AO s,DN false f,Cb false h] (EG false (A f))):AM Tryz.prog 29 [AO s,Bh false l,Cb false h,I last] (N0 false (GI s h A l last)):=by
 have CF:=E4 s l hf hl hs;have CU:=Fo s h h1 h2;have CP:=IK s last;by_cases ha:RJ s h l last=true
 ·have hU:GI s h A l last=Kn A h.me last l l.length:=by unfold GI;rw [if_pos ha]
  unfold RJ at ha;simp only [Bool.and_eq_true,decide_eq_true_eq] at ha;obtain ⟨⟨⟨⟨c1,c2⟩,c3⟩,c4⟩,c5⟩:=ha;have c1' :A6 s l=0:=by unfold Ch at c1;simp at c1;exact c1.1
  rw [c1'] at CF;rw [c2] at CU;replace hA:=hA c1' c2;have ho:=DP (s:=s) (x:=h) (by unfold Ch at c1;simp at c1;exact c1.2);have hmm:=ho.mm;have hme:=(AU ho.va).me;have hv:=ho.va;have hln:=ho.ln;have hkn:AY s≤1000:=by have:=Bd s;omega
  have hll:l.length≤8:=by
   have hfo:=c1';unfold A6 at hfo;rw [if_neg (by simp [ho.va])] at hfo;split at hfo
   ·cases hfo
   ·split at hfo
    ·cases hfo
    ·omega
  rw [decide_eq_true c3,decide_eq_true (show last<AY s by omega)] at CP;clear ho c1 c1' c2;rw [hU];obtain ⟨bag,me⟩:=h;dsimp only at *;have hbl:bag.getD last.toNat 0=bag[last.toNat]'(by omega):=by rw [List.getD_eq_getElem?_getD,List.getElem?_eq_getElem (by omega)];rfl
  have hb0:¬bag[last.toNat]'(by omega)=0:=by rw [←hbl];exact c5
  refine E3 ?_;refine zb Tryz.ntmps29 ?_;let tb:=Kq;let lv:=Iu;(have fa:= @bne_self_eq_false.{0};(repeat' first | refine zS CF ?_ | refine zS CU ?_ | refine zS CP ?_ | refine zQ ?_ | (refine zN ?_;intro K hC hK) | (refine zM ?_;try clear hK hC K) | (refine zC ?_ ?_<;>intro hb) | (refine zK ?_;intro Jo JU JC AH AJ AG))<;>(try clear fa))
  refine A8 (BY 9 500 0 3 (by rfl) (by rfl)) (α:=Nat×Nat) (fun a=>[(1,Bh false l),(3,I last),(4, .ref 0 0 0 0),(6, .ref 1 0 0 0),(9, .rsl 2 a.2 0 (Kn A me last l a.1).length),(10,I a.1)]) (fun a=>[(0, .arr 0 9 [AO s]),(1, .arr 0 2 [Cb false ⟨bag,me⟩]),(2, .arr a.2 3 ((Kn A me last l a.1).map (Hi true)))])
   (fun a=>l.length-a.1) (fun a=>a.1≤l.length) [(0,0),(16,1),(500,2)] [(0,0),(1,1),(2,2)] 0 [1,3,4,6,9,10] 900 zf zf (0,0) (Nat.zero_le _) (by (have fa:=(And.intro @Dg.eq_1 (And.intro (And.intro @Ci.eq_1 @Ci.eq_2) (And.intro @Kn.eq_1 @Kn.eq_2)));exact CZ)) ?_
  rintro ⟨i,g0⟩ hi J hcJ hJ;dsimp only at hi hJ ⊢;have hrl:=Lz A me last (fs:=l) (a:=100000) (m:=100) (fun f hf=>⟨(hA f hf).1.ln,fun c hc=>((hA f hf).1.w c hc).2.1⟩) i;have hrl2:(Kn A me last l i).length≤80000000:=Nat.le_trans hrl (by have:=Nat.mul_le_mul_right (100000*100) (show i≤8 by omega);omega);clear hrl;by_cases hlt:i<l.length
  ·obtain ⟨f,hfi⟩:∃f,l[i]=f:=⟨_,rfl⟩;have hfm:f∈l:=by rw [←hfi];exact List.getElem_mem hlt
   obtain ⟨hok,CA⟩:=hA f hfm;have hstep:Kn A me last l (i+1)=Kn A me last l i++N7 me last i (A f):=by rw [Kn,List.getElem?_eq_getElem hlt,hfi]
   obtain ⟨cs,hcs⟩:∃cs,A f=cs:=⟨_,rfl⟩;rw [hcs] at hok CA hstep;obtain ⟨R,hR⟩:∃R,Kn A me last l i=R:=⟨_,rfl⟩;rw [hR] at hrl2 hstep ⊢;have hcl:=hok.ln;(have fa:=hfi;(repeat' first | refine zS CA ?_ | refine zQ ?_ | (refine zN ?_;intro K hC hK) | (refine zM ?_;try clear hK hC K) | (refine zC ?_ ?_<;>intro hb) | (refine zK ?_;intro Jo JU JC AH AJ AG))<;>(try clear fa))
   refine At (α:=Nat×Nat) (fun a=>[(1,Bh false l),(3,I last),(4, .ref 0 0 0 0),(6, .ref 1 0 0 0),(9, .rsl 2 a.2 0 (R++N7 me last i (cs.take a.1)).length),(10,I i),(11,EG false cs),(12,I a.1)]) (fun a=>[(0, .arr 0 9 [AO s]),(1, .arr 0 2 [Cb false ⟨bag,me⟩]),(2, .arr a.2 3 ((R++N7 me last i (cs.take a.1)).map (Hi true)))])
    (fun a=>cs.length-a.1) (fun a=>a.1≤cs.length) [(0,0),(1,1),(2,2)] [(0,0),(1,1),(2,2)] 0 [1,3,4,6,9,10,11,12] 1900 zf zf (0,g0) (Nat.zero_le _) (by (have fa:=(And.intro @dI @List.append_nil.{0});exact C8)) ?_
   rintro ⟨n,g1⟩ hn J2 hcJ2 hJ2;dsimp only at hn hJ2 ⊢;have hfl:=L3 me last (i:Int) (m:=100) (cs.take n) fun x hx=>(hok.w x (List.mem_of_mem_take hx)).2.1
   have hfl2:(N7 me last i (cs.take n)).length≤10000000:=Nat.le_trans hfl (by rw [List.length_take];have:=Nat.mul_le_mul_right 100 (show min n cs.length≤100000 by omega);omega);clear hfl;by_cases hnl:n<cs.length
   ·obtain ⟨c,hc⟩:∃c,cs[n]=c:=⟨_,rfl⟩;obtain ⟨w1,w2,w3⟩:=hok.w c (by rw [←hc];exact List.getElem_mem hnl);have hst2:=Q5 me last (i:Int) cs hnl;rw [hc] at hst2;obtain ⟨R2,hR2⟩:∃R2,R++N7 me last i (cs.take n)=R2:=⟨_,rfl⟩;have hst3:R++N7 me last i (cs.take (n+1))=R2++L2 me last i c c.length:=by rw [←hR2,←hst2,List.append_assoc]
    have hR2l:R2.length≤90000000:=by rw [←hR2,List.length_append];omega
    rw [hR2];clear hst2;(repeat' first | refine zQ ?_ | (refine zN ?_;intro K hC hK) | (refine zM ?_;try clear hK hC K) | (refine zC ?_ ?_<;>intro hb) | (refine zK ?_;intro Jo JU JC AH AJ AG))
    refine At (α:=Nat×Nat) (fun a=>[(1,Bh false l),(3,I last),(4, .ref 0 0 0 0),(6, .ref 1 0 0 0),(9, .rsl 2 a.2 0 (R2++L2 me last i c a.1).length),(10,I i),(11,EG false cs),(12,I n),(13,I a.1)]) (fun a=>[(0, .arr 0 9 [AO s]),(1, .arr 0 2 [Cb false ⟨bag,me⟩]),(2, .arr a.2 3 ((R2++L2 me last i c a.1).map (Hi true)))])
     (fun a=>c.length-a.1) (fun a=>a.1≤c.length) [(0,0),(1,1),(2,2)] [(0,0),(1,1),(2,2)] 1 [1,3,4,6,9,10,11,12,13] 2900 zf zf (0,g1) (Nat.zero_le _) (by (have fa:=(And.intro (And.intro @L2.eq_1 @L2.eq_2) @List.append_nil.{0});exact C8)) ?_
    rintro ⟨t,g2⟩ t2 J3 hcJ3 hJ3;dsimp only at t2 hJ3 ⊢;have hrc:=MC me last (i:Int) c t;by_cases htl:t<c.length
    ·obtain ⟨g,hg⟩:∃g,c[t]=g:=⟨_,rfl⟩;have hgr:=w3 g (by rw [←hg];exact List.getElem_mem htl);obtain ⟨k0,k1⟩:=gB hkn hgr;have CN:=Wi g last k0 k1;have hst4:L2 me last i c (t+1)=L2 me last i c t++if M1 c last t=true then [⟨i,me++c,me.length+t⟩] else []:=by
      rw [L2]
     have hhit:M1 c last t=(((AI g.wh g.kd).any fun y=>y==last)&& !(decide (0<t)&&decide (c[t-1]? =some g))):=by
      unfold M1;rw [List.getElem?_eq_getElem htl,hg]
     obtain ⟨b,hb⟩:∃b,((AI g.wh g.kd).any fun y=>y==last)=b:=⟨_,rfl⟩;rw [hb] at CN hhit;obtain ⟨R3,hR3⟩:∃R3,L2 me last i c t=R3:=⟨_,rfl⟩;rw [hR3] at hst4 hrc ⊢;have hTR:(R2++R3).take (R2.length+R3.length)=R2++R3:=List.take_of_length_le (by simp);have hTm:me.take me.length=me:=List.take_length;have hTc:c.take c.length=c:=List.take_length;have hmc:(me++c).take (me.length+c.length)=me++c:=List.take_of_length_le (by simp);have hx:AV.agg [I i,AX true (me++c),I ((me.length:Int)+(t:Int))]=Hi true ⟨i,me++c,(me.length:Int)+t⟩:=rfl;by_cases ht0:t=0
     ·have hh2:M1 c last t=b:=by rw [hhit,ht0];simp
      rw [hh2] at hst4;cases b with
      | true =>
       rw [if_pos rfl] at hst4;(have fa:=(And.intro hc (And.intro hg (And.intro hTR (And.intro hTm (And.intro hTc hmc)))));(repeat' first | refine zS CN ?_ | refine zQ ?_ | (refine zN ?_;intro K hC hK) | (refine zM ?_;try clear hK hC K) | (refine zC ?_ ?_<;>intro hb) | (refine zK ?_;intro Jo JU JC AH AJ AG))<;>(try clear fa))
       refine hJ3 _ (t+1,g2+1) (by dsimp only;omega) (by dsimp only;omega) (by (have fa:=(And.intro hst4 (And.intro (fun x y z=>(@List.append_assoc.{0} Rg x y z).symm) (And.intro @List.length_append.{0} (And.intro hx (And.intro hTR hmc)))));exact C8))
      | false =>
       rw [if_neg (by simp),List.append_nil] at hst4;(have fa:=(And.intro hc hg);(repeat' first | refine zS CN ?_ | refine zQ ?_ | (refine zN ?_;intro K hC hK) | (refine zM ?_;try clear hK hC K) | (refine zC ?_ ?_<;>intro hb) | (refine zK ?_;intro Jo JU JC AH AJ AG))<;>(try clear fa))
       refine hJ3 _ (t+1,g2) (by dsimp only;omega) (by dsimp only;omega) (by (have fa:=hst4;exact C8))
     ·obtain ⟨g',hg'⟩:∃g',c[t-1]'(by omega)=g' :=⟨_,rfl⟩;have e3:((t:Int)-1).toNat=t-1:=by omega
      have hh2:M1 c last t=(b&& !decide (g=g')):=by
       rw [hhit,decide_eq_true (show 0<t by omega),List.getElem?_eq_getElem (show t-1<c.length by omega),hg'];congr 2;simp [eq_comm]
      rw [hh2] at hst4;have hgA:AZ g= .agg [.v (.int .i64 g.wh), .v (.int .i64 g.kd), .v (.bool g.op)]:=rfl;have hgB:AZ g' = .agg [.v (.int .i64 g'.wh), .v (.int .i64 g'.kd), .v (.bool g'.op)]:=rfl;have hb3:=H6 g g';by_cases hgg:g=g'
      ·rw [decide_eq_true hgg] at hb3 hst4;rw [Bool.not_true,Bool.and_false,if_neg (by simp),List.append_nil] at hst4;cases b with
       | true =>
        (have fa:=(And.intro hc (And.intro hg (And.intro hg' (And.intro e3 (And.intro hgA (And.intro hgB hb3))))));(repeat' first | refine zS CN ?_ | refine zQ ?_ | (refine zN ?_;intro K hC hK) | (refine zM ?_;try clear hK hC K) | (refine zC ?_ ?_<;>intro hb) | (refine zK ?_;intro Jo JU JC AH AJ AG))<;>(try clear fa))
        refine hJ3 _ (t+1,g2) (by dsimp only;omega) (by dsimp only;omega) (by (have fa:=hst4;exact C8))
       | false =>
        (have fa:=(And.intro hc (And.intro hg (And.intro hg' (And.intro e3 (And.intro hgA (And.intro hgB hb3))))));(repeat' first | refine zS CN ?_ | refine zQ ?_ | (refine zN ?_;intro K hC hK) | (refine zM ?_;try clear hK hC K) | (refine zC ?_ ?_<;>intro hb) | (refine zK ?_;intro Jo JU JC AH AJ AG))<;>(try clear fa))
        refine hJ3 _ (t+1,g2) (by dsimp only;omega) (by dsimp only;omega) (by (have fa:=hst4;exact C8))
      ·rw [decide_eq_false hgg] at hb3 hst4;rw [Bool.not_false,Bool.and_true] at hst4;cases b with
       | true =>
        rw [if_pos rfl] at hst4;(have fa:=(And.intro hc (And.intro hg (And.intro hg' (And.intro e3 (And.intro hTR (And.intro hTm (And.intro hTc (And.intro hmc (And.intro hgA (And.intro hgB hb3))))))))));(repeat' first | refine zS CN ?_ | refine zQ ?_ | (refine zN ?_;intro K hC hK) | (refine zM ?_;try clear hK hC K) | (refine zC ?_ ?_<;>intro hb) | (refine zK ?_;intro Jo JU JC AH AJ AG))<;>(try clear fa))
        refine hJ3 _ (t+1,g2+1) (by dsimp only;omega) (by dsimp only;omega) (by (have fa:=(And.intro hst4 (And.intro (fun x y z=>(@List.append_assoc.{0} Rg x y z).symm) (And.intro @List.length_append.{0} (And.intro hx (And.intro hTR hmc)))));exact C8))
       | false =>
        rw [if_neg (by simp),List.append_nil] at hst4;(have fa:=(And.intro hc (And.intro hg (And.intro hg' (And.intro e3 (And.intro hgA (And.intro hgB hb3))))));(repeat' first | refine zS CN ?_ | refine zQ ?_ | (refine zN ?_;intro K hC hK) | (refine zM ?_;try clear hK hC K) | (refine zC ?_ ?_<;>intro hb) | (refine zK ?_;intro Jo JU JC AH AJ AG))<;>(try clear fa))
        refine hJ3 _ (t+1,g2) (by dsimp only;omega) (by dsimp only;omega) (by (have fa:=hst4;exact C8))
    ·obtain rfl:t=c.length:=by omega
     rw [←hst3];(have fa:=hc;(repeat' first | refine zQ ?_ | (refine zN ?_;intro K hC hK) | (refine zM ?_;try clear hK hC K) | (refine zC ?_ ?_<;>intro hb) | (refine zK ?_;intro Jo JU JC AH AJ AG))<;>(try clear fa))
     refine hJ2 _ (n+1,g2) (by dsimp only;omega) (by dsimp only;omega) (by exact C8)
   ·(repeat' first | refine zQ ?_ | (refine zN ?_;intro K hC hK) | (refine zM ?_;try clear hK hC K) | (refine zC ?_ ?_<;>intro hb) | (refine zK ?_;intro Jo JU JC AH AJ AG))
    obtain rfl:n=cs.length:=by omega
    rw [List.take_length,←hstep];refine hJ _ (i+1,g1) (by dsimp only;omega) (by dsimp only;omega) (by exact CZ)
  ·obtain rfl:i=l.length:=by omega
   (repeat' first | refine zQ ?_ | (refine zN ?_;intro K hC hK) | (refine zM ?_;try clear hK hC K) | (refine zC ?_ ?_<;>intro hb) | (refine zK ?_;intro Jo JU JC AH AJ AG))
   refine Aa [] ?_ ?_<;>(first | exact AK | refine zE ?_)
 ·have hU:GI s h A l last=[]:=by unfold GI;rw [if_neg ha]
  rw [hU];clear hA;refine Ba ?_;by_cases c1:A6 s l=0
  ·rw [c1] at CF;cases c2:Am s h with
   | false =>
    rw [c2] at CU;refine zb Tryz.ntmps29 ?_;let tb:=Kq;let lv:=Iu;(have fa:= @bne_self_eq_false.{0};(repeat' first | refine zS CF ?_ | refine zS CU ?_ | refine zQ ?_ | (refine zN ?_;intro K hC hK) | (refine zM ?_;try clear hK hC K) | (refine zC ?_ ?_<;>intro hb) | (refine zK ?_;intro Jo JU JC AH AJ AG))<;>(try clear fa))
    refine Aa [] ?_ ?_<;>(first | exact AK | refine zE ?_);exact An.nil _ _
   | true =>
    rw [c2] at CU;have hh0:=KV c2;have c3:Ch s l h=true:=by unfold Ch;rw [c1,hh0];rfl
    have hln:=(DP hh0).ln;unfold RJ at ha;rw [c3,c2] at ha;clear c1 c2 c3 hh0;obtain ⟨bag,me⟩:=h;dsimp only at *;by_cases c3:0≤last
    ·by_cases c4:last<(bag.length:Int)
     ·rw [decide_eq_true c3,decide_eq_true (show last<AY s by omega)] at CP;have hbl:bag.getD last.toNat 0=bag[last.toNat]'(by omega):=by rw [List.getD_eq_getElem?_getD,List.getElem?_eq_getElem (by omega)];rfl
      have hb0:bag[last.toNat]'(by omega)=0:=by
       rw [←hbl];by_cases h0:bag.getD last.toNat 0=0
       ·exact h0
       ·exact absurd (by rw [decide_eq_true c3,decide_eq_true c4,decide_eq_true h0];rfl) ha
      clear ha;refine zb Tryz.ntmps29 ?_;let tb:=Kq;let lv:=Iu;(have fa:= @bne_self_eq_false.{0};(repeat' first | refine zS CF ?_ | refine zS CU ?_ | refine zS CP ?_ | refine zQ ?_ | (refine zN ?_;intro K hC hK) | (refine zM ?_;try clear hK hC K) | (refine zC ?_ ?_<;>intro hb) | (refine zK ?_;intro Jo JU JC AH AJ AG))<;>(try clear fa))
      refine Aa [] ?_ ?_<;>(first | exact AK | refine zE ?_);exact An.nil _ _
     ·rw [decide_eq_false (show ¬last<AY s by omega),Bool.and_false] at CP;clear ha;refine zb Tryz.ntmps29 ?_;let tb:=Kq;let lv:=Iu;(have fa:= @bne_self_eq_false.{0};(repeat' first | refine zS CF ?_ | refine zS CU ?_ | refine zS CP ?_ | refine zQ ?_ | (refine zN ?_;intro K hC hK) | (refine zM ?_;try clear hK hC K) | (refine zC ?_ ?_<;>intro hb) | (refine zK ?_;intro Jo JU JC AH AJ AG))<;>(try clear fa))
      refine Aa [] ?_ ?_<;>(first | exact AK | refine zE ?_);exact An.nil _ _
    ·rw [decide_eq_false c3,Bool.false_and] at CP;clear ha;refine zb Tryz.ntmps29 ?_;let tb:=Kq;let lv:=Iu;(have fa:= @bne_self_eq_false.{0};(repeat' first | refine zS CF ?_ | refine zS CU ?_ | refine zS CP ?_ | refine zQ ?_ | (refine zN ?_;intro K hC hK) | (refine zM ?_;try clear hK hC K) | (refine zC ?_ ?_<;>intro hb) | (refine zK ?_;intro Jo JU JC AH AJ AG))<;>(try clear fa))
     refine Aa [] ?_ ?_<;>(first | exact AK | refine zE ?_);exact An.nil _ _
  ·have e:(A6 s l != 0)=true:=by simp [c1]
   refine zb Tryz.ntmps29 ?_;let tb:=Kq;let lv:=Iu;(have fa:=e;(repeat' first | refine zS CF ?_ | refine zQ ?_ | (refine zN ?_;intro K hC hK) | (refine zM ?_;try clear hK hC K) | (refine zC ?_ ?_<;>intro hb) | (refine zK ?_;intro Jo JU JC AH AJ AG))<;>(try clear fa))
   refine Aa [] ?_ ?_<;>(first | exact AK | refine zE ?_);exact An.nil _ _
def Uv (a b:Gp):Bool:=decide (a.wh<b.wh) || (a.wh==b.wh&&decide (a.kd<b.kd))
def Nu (g:Gp) (l:List Gp):Nat→Nat
 | 0=>0
 | n+1=>match l[n]? with
  | some x=>if Uv g x=true then Nu g l n else n+1
  | none=>n+1
def U4 (l:List Gp) (g:Gp):List Gp:=l.take (Nu g l l.length)++g::l.drop (Nu g l l.length)
def IG (l:List Gp):List Gp:=l.foldl U4 []
theorem UL (g:Gp) (l:List Gp):∀n,Nu g l n≤n
 | 0=>Nat.le_refl _
 | n+1=>by
  unfold Nu;split
  ·split
   ·have:=UL g l n;omega
   ·omega
  ·omega
theorem V8 (l:List Gp) (g:Gp):(U4 l g).length=l.length+1:=by
 have:=UL g l l.length;simp [U4];omega
theorem O6 (l:List Gp) {i:Nat} (h:i<l.length):IG (l.take (i+1))=U4 (IG (l.take i)) l[i]:=by
 unfold IG;rw [List.take_succ_eq_append_getElem h,List.foldl_append];rfl
theorem Qg (l:List Gp):∀{i:Nat},i≤l.length→(IG (l.take i)).length=i
 | 0,_=>by simp [IG]
 | i+1,h=>by rw [O6 l (by omega),V8,Qg l (by omega)]
theorem Re (a b:Gp):AM Tryz.prog 114 [AZ a,AZ b] (B (Uv a b)):=by
 unfold Uv;refine zb Tryz.ntmps114 ?_;let tb:=Yq;let lv:=XV;(repeat' first | refine zQ ?_ | (refine zN ?_;intro K hC hK) | (refine zM ?_;try clear hK hC K) | (refine zC ?_ ?_<;>intro hb) | (refine zK ?_;intro Jo JU JC AH AJ AG))
 all_goals (refine Aa [] ?_ ?_<;>(first | exact AK | refine zE ?_);try simp_all)
theorem JI (l:List Gp) (h0:0<l.length) (h1:l.length≤1000000):AM Tryz.prog 49 [AX false l] (AX true (IG l)):=by
 have CB:=fun a b=>Re a b
 refine zb Tryz.ntmps49 ?_;let tb:=eX;let lv:=cO;(repeat' first | refine zQ ?_ | (refine zN ?_;intro K hC hK) | (refine zM ?_;try clear hK hC K) | (refine zC ?_ ?_<;>intro hb) | (refine zK ?_;intro Jo JU JC AH AJ AG))
 refine A8 (BY 3 500 0 3 (by rfl) (by rfl)) (α:=Nat×Nat) (fun a=>[(0,AX false l),(3, .rsl 0 a.2 0 (IG (l.take a.1)).length),(4,I a.1)]) (fun a=>[(0, .arr a.2 3 ((IG (l.take a.1)).map AZ))])
  (fun a=>l.length-a.1) (fun a=>a.1≤l.length) [(500,0)] [(2924,0)] 0 [0,3,4] 900 zg zg (0,0) (by simp) (by (have fa:=(And.intro @Dg.eq_1 (And.intro (And.intro @Ci.eq_1 @Ci.eq_2) (And.intro @IG.eq_1 (And.intro @List.take_zero.{0} @List.foldl_nil.{0,0}))));exact CZ)) ?_
 rintro ⟨i,g⟩ k1 J hcJ hJ;dsimp only at k1 hJ ⊢;by_cases hi:i<l.length
 ·have hs:=O6 l hi;have hn:=Qg l k1;obtain ⟨O,hO⟩:∃O,IG (l.take i)=O:=⟨_,rfl⟩;obtain ⟨z,hz⟩:∃z,l[i]=z:=⟨_,rfl⟩;rw [hO,hz] at hs;rw [hO] at hn ⊢;(repeat' first | refine zQ ?_ | (refine zN ?_;intro K hC hK) | (refine zM ?_;try clear hK hC K) | (refine zC ?_ ?_<;>intro hb) | (refine zK ?_;intro Jo JU JC AH AJ AG))
  refine At (α:=Nat) (fun p=>[(0,AX false l),(3, .rsl 0 g 0 O.length),(4,I i),(5,I p)]) (fun p=>[(0, .arr g 3 (O.map AZ))])
   (fun p=>p) (fun p=>p≤O.length∧Nu z O O.length=Nu z O p) [(0,0)] [(0,0)] 0 [0,3,4,5] 1900 zg zg O.length ⟨Nat.le_refl _,rfl⟩ (by exact CZ) ?_
  rintro p ⟨k2,k3⟩ J2 hcJ2 hJ2;have e14:min p O.length=p:=by omega
  have e16:List.take p (List.take p O)=O.take p:=by rw [List.take_take,Nat.min_self]
  have e18:List.take (O.length-p) (List.drop p O)=O.drop p:=List.take_of_length_le (by simp);have e19:List.take (p+1) (O.take p++[z])=O.take p++[z]:=List.take_of_length_le (by simp;omega);have e20:(((p:Nat):Int)-0).toNat=p:=by omega
  have hlen2:(O.take p++z::O.drop p).length=p+1+(O.length-p):=by simp;omega
  have hins:Nu z O O.length=p→U4 O z=O.take p++z::O.drop p:=fun h=>by unfold U4;rw [h]
  by_cases hp:0<p
  ·obtain ⟨y,hy⟩:∃y,O[p-1]=y:=⟨_,rfl⟩;have hc:((p-1:Nat):Int)=(p:Int)-1:=by omega
   have hstep:Nu z O p=if Uv z y=true then Nu z O (p-1) else p:=by
    obtain ⟨q,rfl⟩:∃q,p=q+1:=⟨p-1,by omega⟩;rw [Nu,List.getElem?_eq_getElem (by omega)];simp only [Nat.add_sub_cancel] at hy ⊢;rw [hy]
   by_cases hb2:Uv z y=true
   ·rw [if_pos hb2] at hstep;(have fa:=(And.intro hz (And.intro hy hb2));(repeat' first | refine zS (CB z y) ?_ | refine zQ ?_ | (refine zN ?_;intro K hC hK) | (refine zM ?_;try clear hK hC K) | (refine zC ?_ ?_<;>intro hb) | (refine zK ?_;intro Jo JU JC AH AJ AG))<;>(try clear fa))
    exact hJ2 _ (p-1) (by omega) ⟨by omega,by rw [k3,hstep]⟩ (by (have fa:=hc;exact CZ))
   ·rw [if_neg hb2] at hstep;have hb3:Uv z y=false:=by simpa using hb2
    have hI:=hins (by rw [k3,hstep]);(have fa:=(And.intro hz (And.intro hy (And.intro hb3 (And.intro e14 (And.intro e16 (And.intro e18 (And.intro e19 (And.intro e20 Nat.min_self))))))));(repeat' first | refine zS (CB z y) ?_ | refine zQ ?_ | (refine zN ?_;intro K hC hK) | (refine zM ?_;try clear hK hC K) | (refine zC ?_ ?_<;>intro hb) | (refine zK ?_;intro Jo JU JC AH AJ AG))<;>(try clear fa))
    refine hJ _ (i+1,_) (by dsimp only;omega) (by dsimp only;omega) (by (have fa:=(And.intro hs (And.intro hI (And.intro hlen2 (And.intro e19 (And.intro @List.append_assoc.{0} (And.intro @List.cons_append.{0} @List.nil_append.{0}))))));exact CZ))
  ·have hI:=hins (by rw [k3,show p=0 by omega];rfl);(have fa:=(And.intro hz (And.intro e14 (And.intro e16 (And.intro e18 (And.intro e19 (And.intro e20 Nat.min_self))))));(repeat' first | refine zS CB ?_ | refine zQ ?_ | (refine zN ?_;intro K hC hK) | (refine zM ?_;try clear hK hC K) | (refine zC ?_ ?_<;>intro hb) | (refine zK ?_;intro Jo JU JC AH AJ AG))<;>(try clear fa))
   refine hJ _ (i+1,_) (by dsimp only;omega) (by dsimp only;omega) (by (have fa:=(And.intro hs (And.intro hI (And.intro hlen2 (And.intro e19 (And.intro @List.append_assoc.{0} (And.intro @List.cons_append.{0} @List.nil_append.{0}))))));exact CZ))
 ·have hT:l.take i=l:=List.take_of_length_le (by omega);(repeat' first | refine zQ ?_ | (refine zN ?_;intro K hC hK) | (refine zM ?_;try clear hK hC K) | (refine zC ?_ ?_<;>intro hb) | (refine zK ?_;intro Jo JU JC AH AJ AG))
  refine Aa [] ?_ ?_<;>(first | exact AK | refine zE ?_);rw [hT]
theorem dH (P:Nat):List.replicate P (AV.v (.int .i64 0))=(List.replicate P 0).map I:=by rw [List.map_replicate]
structure BR where
 ms:List Gp
 gl:List Gp
 X:List Int
 ok:Bool
 x:Int
structure u0 (s:AL) (P:Nat) (a:BR):Prop where
 fi:QU s a.ms∧∃Y,Kx s P a.ms a.X Y
 yes:a.ok=true→Am s ⟨a.X,a.ms⟩=true∧a.X.length=P∧∃gs k,a.gl=IG (gs++[⟨4,k,false⟩])∧(∀g∈gs,Ak s g.wh g.kd=0∧(1≤g.wh∧g.wh≤2)∧g.op=false)∧(0≤k∧k<(P:Int))∧((a.ms.length+gs.length:Nat):Int)=s.me∧∀i,a.X.getD i 0=B7 (gs++[⟨4,k,false⟩]) i
set_option maxHeartbeats 20000000 in
theorem UF (x:Int) (s:AL) (hM:Jn s):Hn Tryz.prog 46 [.ref 0 0 0 0,AO s] (Af x) (fun a:BR=> .tup [.agg [.rsl 1 0 0 (AQ s).toNat,AX false a.ms],AX false a.gl,B a.ok]) (fun a=>[(0, .arr 0 1 [U a.x]),(1, .arr 0 1 (a.X.map I))]) (u0 s (AQ s).toNat):=by
 have hv:=hM.ok;obtain ⟨p1,p2,p3,p4⟩:=A7 hv;have V:=AU hv;have hme:=V.me;have hco:=V.co;have CP:=Cm s (by have:=V.su3;omega);rw [p1] at CP;obtain ⟨P,hP⟩:∃P:Nat,AQ s=(P:Int):=⟨(AQ s).toNat,by omega⟩;have CM:=fun x' d=>fI x' s hv d
 rw [hP] at CP p3 p4 CM ⊢;rw [Int.toNat_natCast];clear V;unfold Hn Af;refine DX ?_;have b1:=Av (x:=x) (n:=2) (by omega) (by omega);have b2:=Av (x:=AR x) (n:=s.me+1) (by omega) (by omega);obtain ⟨d,hd,hd0,hd1⟩:∃d,IntKind.i64.wrap (BC x 2*BC (AR x) (s.me+1))=d∧0≤d∧d≤4:=by
  have:BC x 2=0∨BC x 2=1:=by omega
  rcases this with e | e<;>rw [e]
  ·exact ⟨0,by rw [Int.zero_mul];rfl,by omega,by omega⟩
  ·exact ⟨BC (AR x) (s.me+1),by rw [Int.one_mul];exact Al (by omega) (by omega),by omega,by omega⟩
 have hr:=dH P;have CB:=BI (AR x) (s.me+1) (by omega);refine FL 1 Tryz.ntmps46 ?_;let tb:=gO;let lv:=Zq;(have fa:=(And.intro @Af.eq_1 (And.intro hr hd));(repeat' first | refine zS CP ?_ | refine QF (tg [0]) (BI _ 2 (by omega)) ?_ | refine QF (tg [0]) CB ?_ | refine zQ ?_ | (refine zN ?_;intro K hC hK) | (refine zM ?_;try clear hK hC K) | (refine zC ?_ ?_<;>intro hb) | (refine zK ?_;intro Jo JU JC AH AJ AG))<;>(try clear fa))
 generalize AR (AR x)=x0 at *;refine A8 ((Jf 192 0 2 500 0 3 1 (by rfl) (by rfl) (by rfl)).trans (BY 9 516 0 3 (by rfl) (by rfl))) (α:=Nat×List Gp×Nat×List Gp×Nat×List Int×List Int×Int)
  (fun a=>[(0, .ref 0 0 0 0),(3, .ref 1 0 0 0),(4, .ref 2 0 0 0),(7, .ref 3 0 0 0),(8, .rsl 5 0 0 P),(9, .rsl 7 a.2.2.2.2.1 0 a.2.2.2.1.length),(10,I d),(11,I a.1)])
  (fun a=>[(0, .arr 0 1 [U a.2.2.2.2.2.2.2]),(1, .arr 0 9 [AO s]),(2, .arr 0 2 [.agg [Bw,Bw]]),(3, .arr 0 2 [.agg [.rsl 4 0 0 P, .rsl 6 a.2.2.1 0 a.2.1.length]]),(4, .arr 0 1 (a.2.2.2.2.2.1.map I)),(5, .arr 0 1 (a.2.2.2.2.2.2.1.map I)),(6, .arr a.2.2.1 3 (a.2.1.map AZ)),(7, .arr a.2.2.2.2.1 3 (a.2.2.2.1.map AZ))])
  (fun a=>80-a.1) (fun a=>a.1≤80∧UV s P a.2.1 a.2.2.2.1 a.2.2.2.2.2.1 a.2.2.2.2.2.2.1) [(0,0),(64,1),(80,2),(192,3),(160,4),(256,5),(500,6),(516,7)] [(0,0),(1,1),(2,2),(3,3),(4,4),(5,5),(6,6),(7,7)] 0 [0,3,4,7,8,9,10,11] 900 zg zg (0,[],0,[],0,List.replicate P 0,List.replicate P 0,x0) ⟨by omega,UV.start hv⟩ (by (have fa:=(And.intro @I1.eq_1 (And.intro @Dg.eq_1 (And.intro (And.intro @Ci.eq_1 @Ci.eq_2) hr)));exact C8)) ?_
 ·rintro ⟨t,ms,g1,gs,g2,X,Y,x'⟩ ⟨k1,k2⟩ J hcJ hJ;dsimp only at k1 k2 hJ ⊢;have hxl:=k2.fi.xl;have hyl:=k2.fi.yl;have hln:=k2.ln;have hT1:Y.take P=Y:=List.take_of_length_le (by omega);have hT2:P≤Y.length:=by omega
  have hT3:X.take P=X:=List.take_of_length_le (by omega);have hT4:P≤X.length:=by omega
  by_cases ht:t<80
  ·by_cases hl:((ms.length+gs.length:Nat):Int)<s.me
   ·by_cases hdc:(ms.length:Int)<d
    ·have CM1:=CM x' true;have hdt:=decide_eq_true hdc;(repeat' first | refine zQ ?_ | (refine zN ?_;intro K hC hK) | (refine zM ?_;try clear hK hC K) | (refine zC ?_ ?_<;>intro hb) | (refine zK ?_;intro Jo JU JC AH AJ AG))
     (have fa:=(And.intro @Af.eq_1 hdt);refine vK (tg [0]) (CM1) ?_;clear AH AJ AG Jo JU JC;(try clear fa));intro xr hxr;obtain ⟨q1,q2,q3,q4⟩:=hxr;have CT:=H3 s xr.1;by_cases hg:Ak s xr.1.wh xr.1.kd=0
     ·have hte:BT s xr.1.wh xr.1.kd=AI xr.1.wh xr.1.kd:=by unfold BT;rw [if_pos ⟨hv,hg⟩]
      rw [hte] at CT;have hin:=Gc hv hP hg;have hlen:=Bt xr.1.wh xr.1.kd;have hpos:0<(AI xr.1.wh xr.1.kd).length:=by unfold AI;(repeat' split)<;>simp
      have CF:=Ik s Y (AI xr.1.wh xr.1.kd) (by rw [hyl];exact hin) (by omega) (fun i=>by have:=k2.fi.rg i;omega) (by omega);have hB:=k2.meld hv hP hg q1.2 (q4 rfl) hl;obtain ⟨L,hL⟩:∃L,AI xr.1.wh xr.1.kd=L:=⟨_,rfl⟩;have CPu:=GB 0 Y L (by rw [hyl,←hL];exact hin) (by rw [←hL];omega) (fun i=>by have:=k2.fi.rg i;omega) (by omega);have CPx:=GB 0 X L (by rw [hxl,←hL];exact hin) (by rw [←hL];omega) (fun i=>by have:=k2.fi.rg i;omega) (by omega);rw [hL] at CT CF hpos hB;rw [hyl] at CPu;rw [hxl] at CPx;by_cases hf:FN s.co Y L=true
      ·rw [hf] at CF;(have fa:=(And.intro hdt (And.intro hT1 (And.intro hT2 (And.intro hT3 hT4))));(repeat' first | refine zS CT ?_ | refine zS CF ?_ | refine QF (tg [5]) CPu ?_ | refine QF (tg [4]) CPx ?_ | refine zQ ?_ | (refine zN ?_;intro K hC hK) | (refine zM ?_;try clear hK hC K) | (refine zC ?_ ?_<;>intro hb) | (refine zK ?_;intro Jo JU JC AH AJ AG))<;>(try clear fa))
       refine hJ _ (t+1,ms++[xr.1],g1+1,gs,g2,X,A5 Y L,xr.2) (by dsimp only;omega) ⟨by dsimp only;omega,hB hf⟩ (by (have fa:= @List.length_append.{0};exact C8))
      ·have hf' :FN s.co Y L=false:=by simpa using hf
       rw [hf'] at CF;(have fa:=(And.intro hT1 hT2);(repeat' first | refine zS CT ?_ | refine zS CF ?_ | refine zQ ?_ | (refine zN ?_;intro K hC hK) | (refine zM ?_;try clear hK hC K) | (refine zC ?_ ?_<;>intro hb) | (refine zK ?_;intro Jo JU JC AH AJ AG))<;>(try clear fa))
       refine hJ _ (t+1,ms,g1,gs,g2,X,Y,xr.2) (by dsimp only;omega) ⟨by dsimp only;omega,k2⟩ (by exact C8)
     ·have hte:BT s xr.1.wh xr.1.kd=[]:=by unfold BT;rw [if_neg (by omega)]
      rw [hte] at CT;(repeat' first | refine zS CT ?_ | refine zQ ?_ | (refine zN ?_;intro K hC hK) | (refine zM ?_;try clear hK hC K) | (refine zC ?_ ?_<;>intro hb) | (refine zK ?_;intro Jo JU JC AH AJ AG))
      refine hJ _ (t+1,ms,g1,gs,g2,X,Y,xr.2) (by dsimp only;omega) ⟨by dsimp only;omega,k2⟩ (by exact C8)
    ·have CM1:=CM x' false;have hdt:=decide_eq_false hdc;(repeat' first | refine zQ ?_ | (refine zN ?_;intro K hC hK) | (refine zM ?_;try clear hK hC K) | (refine zC ?_ ?_<;>intro hb) | (refine zK ?_;intro Jo JU JC AH AJ AG))
     (have fa:=(And.intro @Af.eq_1 hdt);refine vK (tg [0]) (CM1) ?_;clear AH AJ AG Jo JU JC;(try clear fa));intro xr hxr;obtain ⟨q1,q2,q3,q4⟩:=hxr;have CT:=H3 s xr.1;by_cases hg:Ak s xr.1.wh xr.1.kd=0
     ·have hte:BT s xr.1.wh xr.1.kd=AI xr.1.wh xr.1.kd:=by unfold BT;rw [if_pos ⟨hv,hg⟩]
      rw [hte] at CT;have hin:=Gc hv hP hg;have hlen:=Bt xr.1.wh xr.1.kd;have hpos:0<(AI xr.1.wh xr.1.kd).length:=by unfold AI;(repeat' split)<;>simp
      have CF:=Ik s Y (AI xr.1.wh xr.1.kd) (by rw [hyl];exact hin) (by omega) (fun i=>by have:=k2.fi.rg i;omega) (by omega);have hB:=k2.group hv hP hg ⟨q1.1,(q3 rfl).1⟩ (q3 rfl).2 hl;obtain ⟨L,hL⟩:∃L,AI xr.1.wh xr.1.kd=L:=⟨_,rfl⟩;have CPu:=GB 0 Y L (by rw [hyl,←hL];exact hin) (by rw [←hL];omega) (fun i=>by have:=k2.fi.rg i;omega) (by omega);have CPx:=GB 0 X L (by rw [hxl,←hL];exact hin) (by rw [←hL];omega) (fun i=>by have:=k2.fi.rg i;omega) (by omega);rw [hL] at CT CF hpos hB;rw [hyl] at CPu;rw [hxl] at CPx;by_cases hf:FN s.co Y L=true
      ·rw [hf] at CF;(have fa:=(And.intro hdt (And.intro hT1 (And.intro hT2 (And.intro hT3 hT4))));(repeat' first | refine zS CT ?_ | refine zS CF ?_ | refine QF (tg [5]) CPu ?_ | refine QF (tg [4]) CPx ?_ | refine zQ ?_ | (refine zN ?_;intro K hC hK) | (refine zM ?_;try clear hK hC K) | (refine zC ?_ ?_<;>intro hb) | (refine zK ?_;intro Jo JU JC AH AJ AG))<;>(try clear fa))
       refine hJ _ (t+1,ms,g1,gs++[xr.1],g2+1,A5 X L,A5 Y L,xr.2) (by dsimp only;omega) ⟨by dsimp only;omega,hB hf⟩ (by (have fa:= @List.length_append.{0};exact C8))
      ·have hf' :FN s.co Y L=false:=by simpa using hf
       rw [hf'] at CF;(have fa:=(And.intro hT1 hT2);(repeat' first | refine zS CT ?_ | refine zS CF ?_ | refine zQ ?_ | (refine zN ?_;intro K hC hK) | (refine zM ?_;try clear hK hC K) | (refine zC ?_ ?_<;>intro hb) | (refine zK ?_;intro Jo JU JC AH AJ AG))<;>(try clear fa))
       refine hJ _ (t+1,ms,g1,gs,g2,X,Y,xr.2) (by dsimp only;omega) ⟨by dsimp only;omega,k2⟩ (by exact C8)
     ·have hte:BT s xr.1.wh xr.1.kd=[]:=by unfold BT;rw [if_neg (by omega)]
      rw [hte] at CT;(repeat' first | refine zS CT ?_ | refine zQ ?_ | (refine zN ?_;intro K hC hK) | (refine zM ?_;try clear hK hC K) | (refine zC ?_ ?_<;>intro hb) | (refine zK ?_;intro Jo JU JC AH AJ AG))
      refine hJ _ (t+1,ms,g1,gs,g2,X,Y,xr.2) (by dsimp only;omega) ⟨by dsimp only;omega,k2⟩ (by exact C8)
   ·(repeat' first | refine zQ ?_ | (refine zN ?_;intro K hC hK) | (refine zM ?_;try clear hK hC K) | (refine zC ?_ ?_<;>intro hb) | (refine zK ?_;intro Jo JU JC AH AJ AG))
    refine At (α:=Nat×Int) (fun a=>[(0, .ref 0 0 0 0),(3, .ref 1 0 0 0),(4, .ref 2 0 0 0),(7, .ref 3 0 0 0),(8, .rsl 5 0 0 P),(9, .rsl 7 g2 0 gs.length),(15,B (((ms.length:Int)+gs.length)==s.me)),(16,I a.1)])
     (fun a=>[(0, .arr 0 1 [U a.2]),(1, .arr 0 9 [AO s]),(2, .arr 0 2 [.agg [Bw,Bw]]),(3, .arr 0 2 [.agg [.rsl 4 0 0 P, .rsl 6 g1 0 ms.length]]),(4, .arr 0 1 (X.map I)),(5, .arr 0 1 (Y.map I)),(6, .arr g1 3 (ms.map AZ)),(7, .arr g2 3 (gs.map AZ))])
     (fun a=>40-a.1) (fun a=>a.1≤40) [(0,0),(1,1),(2,2),(3,3),(4,4),(5,5),(6,6),(7,7)] [(0,0),(1,1),(2,2),(3,3),(4,4),(5,5),(6,6),(7,7)] 0 [0,3,4,7,8,9,15,16] 1900 zg zg (0,x') (by dsimp only;omega) (by exact C8) ?_
    rintro ⟨u,x2⟩ j1 J2 hcJ2 hJ2;dsimp only at j1 hJ2 ⊢;by_cases hu:u<40
    ·by_cases hw:(ms.length:Int)+gs.length=s.me
     ·have hwt:((ms.length:Int)+gs.length==s.me)=true:=by simp [hw]
      rw [hwt] at hJ2 ⊢;have bb:=Av (x:=x2) (n:=P) (by omega) (by omega);have CB:=BI x2 P (by omega);obtain ⟨k,hk⟩:∃k,BC x2 P=k:=⟨_,rfl⟩;rw [hk] at bb;have hkk:D8 P [k,k]:=fun z hz=>by simp at hz;omega
      have CF:AM Tryz.prog 110 [AO s,AN false Y, .sl false 1 [I k,I k]] (B (FN s.co Y [k,k])):=Ik s Y [k,k] (by rw [hyl];exact hkk) (by simp) (fun i=>by have:=k2.fi.rg i;omega) (by omega);have CPu:D3 Tryz.prog 111 [.rsl 0 0 0 X.length, .sl false 1 [I k,I k]] [(0, .arr 0 1 (X.map I))] (.tup []) [(0, .arr 0 1 ((A5 X [k,k]).map I))]:=GB 0 X [k,k] (by rw [hxl];exact hkk) (by simp) (fun i=>by have:=k2.fi.rg i;omega) (by omega);rw [hxl] at CPu;by_cases hf:FN s.co Y [k,k]=true
      ·rw [hf] at CF;have hw' :((ms.length+gs.length:Nat):Int)=s.me:=by omega
       obtain ⟨d1,d2,d3⟩:=k2.done hv hP (by omega) bb.1 bb.2 hf;have hT5:List.take (gs.length+1) (gs.map AZ++[AV.agg [.v (.int .i64 4), .v (.int .i64 k), .v (.bool false)]])=gs.map AZ++[AV.agg [.v (.int .i64 4), .v (.int .i64 k), .v (.bool false)]]:=List.take_of_length_le (by simp);have hT6:gs.length+1≤(gs.map AZ++[AV.agg [.v (.int .i64 4), .v (.int .i64 k), .v (.bool false)]]).length:=by simp
       have CO:AM Tryz.prog 49 [.sl false 3 (gs.map AZ++[AV.agg [.v (.int .i64 4), .v (.int .i64 k), .v (.bool false)]])] (AX true (IG (gs++[⟨4,k,false⟩]))):=by
        have:=JI (gs++[⟨4,k,false⟩]) (by simp) (by simp;omega);rw [show AX false (gs++[⟨4,k,false⟩])= .sl false 3 (gs.map AZ++[AV.agg [.v (.int .i64 4), .v (.int .i64 k), .v (.bool false)]]) from by unfold AX;rw [List.map_append];rfl] at this;exact this
       (have fa:=(And.intro @Af.eq_1 (And.intro hk (And.intro hT1 (And.intro hT2 (And.intro hT5 (And.intro hT6 @Ay))))));(repeat' first | refine zS CP ?_ | refine QF (tg [0]) CB ?_ | refine zS CF ?_ | refine zB (tg [4]) CPu ?_ | refine zS CO ?_ | refine zQ ?_ | (refine zN ?_;intro K hC hK) | (refine zM ?_;try clear hK hC K) | (refine zC ?_ ?_<;>intro hb) | (refine zK ?_;intro Jo JU JC AH AJ AG))<;>(try clear fa))
       refine Aa [(0,0),(4,1)] ?_ ?_<;>(first | exact AK | refine zE ?_);refine ⟨.tup [.agg [.rsl 1 0 0 P,AX false ms],AX false (IG (gs++[⟨4,k,false⟩])),B true],?_,⟨ms,IG (gs++[⟨4,k,false⟩]),A5 X [k,k],true,AR x2⟩,⟨⟨k2.ok,A5 Y [k,k],k2.fi.put hkk hf⟩,fun _=>⟨d1,d3,gs,k,rfl,k2.go,bb,hw',d2⟩⟩,rfl,rfl⟩;refine An.tup (.cons (An.agg (by (repeat first | exact EO.nil | refine GQ ?_))) (.cons (An.sl _ _ _) (.cons .rfl' .nil)))
      ·have hf' :FN s.co Y [k,k]=false:=by simpa using hf
       rw [hf'] at CF;(have fa:=(And.intro @Af.eq_1 (And.intro hk (And.intro hT1 (And.intro hT2 (And.intro @List.take_succ_cons.{0} @List.take_zero.{0})))));(repeat' first | refine zS CP ?_ | refine QF (tg [0]) CB ?_ | refine zS CF ?_ | refine zQ ?_ | (refine zN ?_;intro K hC hK) | (refine zM ?_;try clear hK hC K) | (refine zC ?_ ?_<;>intro hb) | (refine zK ?_;intro Jo JU JC AH AJ AG))<;>(try clear fa))
       refine hJ2 _ (u+1,AR x2) (by dsimp only;omega) (by dsimp only;omega) (by exact C8)
     ·have hwt:((ms.length:Int)+gs.length==s.me)=false:=by simp [hw]
      rw [hwt] at hJ2 ⊢;(repeat' first | refine zQ ?_ | (refine zN ?_;intro K hC hK) | (refine zM ?_;try clear hK hC K) | (refine zC ?_ ?_<;>intro hb) | (refine zK ?_;intro Jo JU JC AH AJ AG))
      refine Aa [(0,0),(4,1)] ?_ ?_<;>(first | exact AK | refine zE ?_);refine ⟨.tup [.agg [.rsl 1 0 0 P,AX false ms],AX false [],B false],?_,⟨ms,[],X,false,x2⟩,⟨⟨k2.ok,Y,k2.fi⟩,fun h=>by cases h⟩,rfl,rfl⟩;refine An.tup (.cons (An.agg (by (repeat first | exact EO.nil | refine GQ ?_))) (.cons (An.nil _ _) (.cons .rfl' .nil)))
    ·(repeat' first | refine zQ ?_ | (refine zN ?_;intro K hC hK) | (refine zM ?_;try clear hK hC K) | (refine zC ?_ ?_<;>intro hb) | (refine zK ?_;intro Jo JU JC AH AJ AG))
     refine Aa [(0,0),(4,1)] ?_ ?_<;>(first | exact AK | refine zE ?_);refine ⟨.tup [.agg [.rsl 1 0 0 P,AX false ms],AX false [],B false],?_,⟨ms,[],X,false,x2⟩,⟨⟨k2.ok,Y,k2.fi⟩,fun h=>by cases h⟩,rfl,rfl⟩;refine An.tup (.cons (An.agg (by (repeat first | exact EO.nil | refine GQ ?_))) (.cons (An.nil _ _) (.cons .rfl' .nil)))
  ·(repeat' first | refine zQ ?_ | (refine zN ?_;intro K hC hK) | (refine zM ?_;try clear hK hC K) | (refine zC ?_ ?_<;>intro hb) | (refine zK ?_;intro Jo JU JC AH AJ AG))
   refine At (α:=Nat×Int) (fun a=>[(0, .ref 0 0 0 0),(3, .ref 1 0 0 0),(4, .ref 2 0 0 0),(7, .ref 3 0 0 0),(8, .rsl 5 0 0 P),(9, .rsl 7 g2 0 gs.length),(15,B (((ms.length:Int)+gs.length)==s.me)),(16,I a.1)])
    (fun a=>[(0, .arr 0 1 [U a.2]),(1, .arr 0 9 [AO s]),(2, .arr 0 2 [.agg [Bw,Bw]]),(3, .arr 0 2 [.agg [.rsl 4 0 0 P, .rsl 6 g1 0 ms.length]]),(4, .arr 0 1 (X.map I)),(5, .arr 0 1 (Y.map I)),(6, .arr g1 3 (ms.map AZ)),(7, .arr g2 3 (gs.map AZ))])
    (fun a=>40-a.1) (fun a=>a.1≤40) [(0,0),(1,1),(2,2),(3,3),(4,4),(5,5),(6,6),(7,7)] [(0,0),(1,1),(2,2),(3,3),(4,4),(5,5),(6,6),(7,7)] 0 [0,3,4,7,8,9,15,16] 1900 zg zg (0,x') (by dsimp only;omega) (by exact C8) ?_
   rintro ⟨u,x2⟩ j1 J2 hcJ2 hJ2;dsimp only at j1 hJ2 ⊢;by_cases hu:u<40
   ·by_cases hw:(ms.length:Int)+gs.length=s.me
    ·have hwt:((ms.length:Int)+gs.length==s.me)=true:=by simp [hw]
     rw [hwt] at hJ2 ⊢;have bb:=Av (x:=x2) (n:=P) (by omega) (by omega);have CB:=BI x2 P (by omega);obtain ⟨k,hk⟩:∃k,BC x2 P=k:=⟨_,rfl⟩;rw [hk] at bb;have hkk:D8 P [k,k]:=fun z hz=>by simp at hz;omega
     have CF:AM Tryz.prog 110 [AO s,AN false Y, .sl false 1 [I k,I k]] (B (FN s.co Y [k,k])):=Ik s Y [k,k] (by rw [hyl];exact hkk) (by simp) (fun i=>by have:=k2.fi.rg i;omega) (by omega);have CPu:D3 Tryz.prog 111 [.rsl 0 0 0 X.length, .sl false 1 [I k,I k]] [(0, .arr 0 1 (X.map I))] (.tup []) [(0, .arr 0 1 ((A5 X [k,k]).map I))]:=GB 0 X [k,k] (by rw [hxl];exact hkk) (by simp) (fun i=>by have:=k2.fi.rg i;omega) (by omega);rw [hxl] at CPu;by_cases hf:FN s.co Y [k,k]=true
     ·rw [hf] at CF;have hw' :((ms.length+gs.length:Nat):Int)=s.me:=by omega
      obtain ⟨d1,d2,d3⟩:=k2.done hv hP (by omega) bb.1 bb.2 hf;have hT5:List.take (gs.length+1) (gs.map AZ++[AV.agg [.v (.int .i64 4), .v (.int .i64 k), .v (.bool false)]])=gs.map AZ++[AV.agg [.v (.int .i64 4), .v (.int .i64 k), .v (.bool false)]]:=List.take_of_length_le (by simp);have hT6:gs.length+1≤(gs.map AZ++[AV.agg [.v (.int .i64 4), .v (.int .i64 k), .v (.bool false)]]).length:=by simp
      have CO:AM Tryz.prog 49 [.sl false 3 (gs.map AZ++[AV.agg [.v (.int .i64 4), .v (.int .i64 k), .v (.bool false)]])] (AX true (IG (gs++[⟨4,k,false⟩]))):=by
       have:=JI (gs++[⟨4,k,false⟩]) (by simp) (by simp;omega);rw [show AX false (gs++[⟨4,k,false⟩])= .sl false 3 (gs.map AZ++[AV.agg [.v (.int .i64 4), .v (.int .i64 k), .v (.bool false)]]) from by unfold AX;rw [List.map_append];rfl] at this;exact this
      (have fa:=(And.intro @Af.eq_1 (And.intro hk (And.intro hT1 (And.intro hT2 (And.intro hT5 (And.intro hT6 @Ay))))));(repeat' first | refine zS CP ?_ | refine QF (tg [0]) CB ?_ | refine zS CF ?_ | refine zB (tg [4]) CPu ?_ | refine zS CO ?_ | refine zQ ?_ | (refine zN ?_;intro K hC hK) | (refine zM ?_;try clear hK hC K) | (refine zC ?_ ?_<;>intro hb) | (refine zK ?_;intro Jo JU JC AH AJ AG))<;>(try clear fa))
      refine Aa [(0,0),(4,1)] ?_ ?_<;>(first | exact AK | refine zE ?_);refine ⟨.tup [.agg [.rsl 1 0 0 P,AX false ms],AX false (IG (gs++[⟨4,k,false⟩])),B true],?_,⟨ms,IG (gs++[⟨4,k,false⟩]),A5 X [k,k],true,AR x2⟩,⟨⟨k2.ok,A5 Y [k,k],k2.fi.put hkk hf⟩,fun _=>⟨d1,d3,gs,k,rfl,k2.go,bb,hw',d2⟩⟩,rfl,rfl⟩;refine An.tup (.cons (An.agg (by (repeat first | exact EO.nil | refine GQ ?_))) (.cons (An.sl _ _ _) (.cons .rfl' .nil)))
     ·have hf' :FN s.co Y [k,k]=false:=by simpa using hf
      rw [hf'] at CF;(have fa:=(And.intro @Af.eq_1 (And.intro hk (And.intro hT1 (And.intro hT2 (And.intro @List.take_succ_cons.{0} @List.take_zero.{0})))));(repeat' first | refine zS CP ?_ | refine QF (tg [0]) CB ?_ | refine zS CF ?_ | refine zQ ?_ | (refine zN ?_;intro K hC hK) | (refine zM ?_;try clear hK hC K) | (refine zC ?_ ?_<;>intro hb) | (refine zK ?_;intro Jo JU JC AH AJ AG))<;>(try clear fa))
      refine hJ2 _ (u+1,AR x2) (by dsimp only;omega) (by dsimp only;omega) (by exact C8)
    ·have hwt:((ms.length:Int)+gs.length==s.me)=false:=by simp [hw]
     rw [hwt] at hJ2 ⊢;(repeat' first | refine zQ ?_ | (refine zN ?_;intro K hC hK) | (refine zM ?_;try clear hK hC K) | (refine zC ?_ ?_<;>intro hb) | (refine zK ?_;intro Jo JU JC AH AJ AG))
     refine Aa [(0,0),(4,1)] ?_ ?_<;>(first | exact AK | refine zE ?_);refine ⟨.tup [.agg [.rsl 1 0 0 P,AX false ms],AX false [],B false],?_,⟨ms,[],X,false,x2⟩,⟨⟨k2.ok,Y,k2.fi⟩,fun h=>by cases h⟩,rfl,rfl⟩;refine An.tup (.cons (An.agg (by (repeat first | exact EO.nil | refine GQ ?_))) (.cons (An.nil _ _) (.cons .rfl' .nil)))
   ·(repeat' first | refine zQ ?_ | (refine zN ?_;intro K hC hK) | (refine zM ?_;try clear hK hC K) | (refine zC ?_ ?_<;>intro hb) | (refine zK ?_;intro Jo JU JC AH AJ AG))
    refine Aa [(0,0),(4,1)] ?_ ?_<;>(first | exact AK | refine zE ?_);refine ⟨.tup [.agg [.rsl 1 0 0 P,AX false ms],AX false [],B false],?_,⟨ms,[],X,false,x2⟩,⟨⟨k2.ok,Y,k2.fi⟩,fun h=>by cases h⟩,rfl,rfl⟩;refine An.tup (.cons (An.agg (by (repeat first | exact EO.nil | refine GQ ?_))) (.cons (An.nil _ _) (.cons .rfl' .nil)))
end Go.Proofs.YthblfhgofopcaaaGreat
