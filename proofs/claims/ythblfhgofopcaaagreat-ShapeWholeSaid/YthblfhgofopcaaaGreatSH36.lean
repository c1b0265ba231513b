/-
  Parts of the proof: RefS, RefK.
-/
import Derived.Test.YthblfhgofopcaaaGreatSH13
import Derived.Test.YthblfhgofopcaaaGreatSH14
import Derived.Test.YthblfhgofopcaaaGreatSH35
import Derived.Test.YthblfhgofopcaaaGreatSH34
import Derived.Test.YthblfhgofopcaaaGreatSH33
set_option linter.all false
namespace Go.Proofs.YthblfhgofopcaaaGreat
open Go.RowKit
set_option maxRecDepth 100000
set_option maxHeartbeats 2000000
theorem Sm (rn:Int→Bool) (f:Nat) (bag:List Int) (k:Nat):(List.range (k+1)).foldl (Dh rn f bag) []=Dh rn f bag ((List.range k).foldl (Dh rn f bag) []) k:=by
 rw [List.range_succ,List.foldl_append];rfl
theorem RQ {rn:Int→Bool} {f:Nat} {bag:List Int} (hb:bag.length≤1000) {k:Nat} (hk:k≤1000) {out:List (List Gp)} (ho:∀x∈out,Sg x∧x.length≤f+1):(Dh rn f bag out k).length≤out.length+2 ^ f∧∀x∈Dh rn f bag out k,Sg x∧x.length≤f+1:=by
 unfold Dh;split
 ·exact ⟨Nat.le_add_right _ _,ho⟩
 ·split
  ·exact ⟨Nat.le_add_right _ _,ho⟩
  ·rename_i r hr;have hl:r.length≤1000:=by rw [Kf _ _ _ hr];exact hb
   have ih:=Dw (rn:=rn) f r hl;refine ⟨Nat.le_trans (DR _ _) (by omega),fun x hx=> ?_⟩;rcases EI hx with hx | ⟨y,hy,rfl⟩
   ·exact ho x hx
   ·exact ⟨E5 (ih.2 y hy).1 (fun z hz=>by simp at hz;subst hz;simp [gp];omega),by rw [D6];have:=(ih.2 y hy).2;omega⟩
theorem LV {rn:Int→Bool} {f:Nat} {bag:List Int} (hb:bag.length≤1000):∀k,k≤1000→((List.range k).foldl (Dh rn f bag) []).length≤k*2 ^ f∧∀x∈(List.range k).foldl (Dh rn f bag) [],Sg x∧x.length≤f+1
 | 0,_=>⟨by simp,fun x hx=>by cases hx⟩
 | k+1,hk=>by
  rw [Sm];have h1:=LV (rn:=rn) (f:=f) hb k (by omega);have h2:=RQ (rn:=rn) (f:=f) hb (k:=k) (by omega) h1.2;refine ⟨?_,h2.2⟩;rw [Nat.succ_mul];omega
set_option maxHeartbeats 4000000 in
theorem Jc (s:AL) (hv:AP s=0) (f:Nat) (bag:List Int) (hf:f≤20) (hb:Sb bag) (hn:(bag.length:Int)=AY s) (hs:bag.sum<(f:Int)):AM Tryz.prog 125 [AO s,AN false bag] (EG false (Eg (AT s) f bag)):=by
 have hK:=DI hv;have hp2:(2:Nat) ^ f≤2 ^ 20:=Nat.pow_le_pow_right (by omega) (by omega);refine E3 ?_;refine zb Tryz.ntmps125 ?_;let tb:=b8;let lv:=Yj;(repeat' first | refine zQ ?_ | (refine zN ?_;intro K hC hK) | (refine zM ?_;try clear hK hC K) | (refine zC ?_ ?_<;>intro hb) | (refine zK ?_;intro Jo JU JC AH AJ AG))
 refine At (α:=Nat×List (List Gp)) (fun x=>[(1,AN false bag),(2, .ref 0 0 0 0),(5,EG false x.2),(6,I x.1)]) (fun _=>[(0, .arr 0 9 [AO s])]) (fun x=>bag.length-x.1) (fun x=>x.1≤bag.length∧x.2=(List.range x.1).foldl (Dh (AT s) f bag) []) [(0,0)] [(0,0)] 0 [1,2,5,6] 900 zf zf (0,[]) ⟨Nat.zero_le _,rfl⟩ (by exact CZ) ?_;rintro ⟨k,out⟩ ⟨hk,hout⟩ J hcJ hJ;dsimp only at hk hout hJ ⊢;have small:=LV (rn:=AT s) (f:=f) (bag:=bag) (by omega) k (by omega);rw [←hout] at small;have lo:out.length≤60*2 ^ 20:=Nat.le_trans small.1 (Nat.mul_le_mul (by have:=GM s;omega) hp2);by_cases h:k<bag.length
 ·have hst:=Sm (AT s) f bag k;rw [←hout] at hst;by_cases h2:bag[k]<2
  ·have e:Dh (AT s) f bag out k=out:=by unfold Dh;rw [if_pos (by simpa [h] using h2)]
   (repeat' first | refine zQ ?_ | (refine zN ?_;intro K hC hK) | (refine zM ?_;try clear hK hC K) | (refine zC ?_ ?_<;>intro hb) | (refine zK ?_;intro Jo JU JC AH AJ AG))
   exact hJ _ (k+1,out) (by simp;omega) ⟨by simp;omega,by rw [hst,e]⟩ (by exact CZ)
  ·have k3:D8 bag.length [(k:Int),(k:Int)]:=fun z hz=>by simp at hz;omega
   have hb2:=hb k;have hge:bag.getD k 0=bag[k]:=by simp [h]
   obtain ⟨r,hle⟩:∃r,BX bag [(k:Int),(k:Int)]=some r:=by
    rcases C5 _ bag k3 hb.bg with ⟨h1,_⟩ | ⟨_,i,hi⟩
    ·exact ⟨_,h1⟩
    ·exfalso;have e1:=Dc (k:Int) false i;unfold Di at e1;simp only [AI] at e1;simp at e1;rw [e1] at hi;have:=hb i;split at hi
     ·rename_i hki;have:k=i:=by omega
      subst this;omega
     ·omega
   obtain ⟨r1,r2,r3⟩:=IY hb k3 hle;have e:Dh (AT s) f bag out k=DB (gp 4 k) out (Cc (AT s) f r):=by
    unfold Dh;rw [if_neg (by rw [hge];exact h2),hle]
   have CT:AM Tryz.prog 123 [AZ (gp 4 k)] (AN true [(k:Int),(k:Int)]):=EQ (gp 4 k) (by simp [gp]) (by simp [gp];omega);have CL:AM Tryz.prog 146 [AN false bag,AN false [(k:Int),(k:Int)]] (AN true r):=by
    have:=Fh bag _ hb k3 (by omega) (by simp);rw [hle] at this;exact this
   have CM:=LS s hv f r hf r1 (by omega) (by simp at r3;omega);have sm:=Dw (rn:=AT s) f r (by omega);obtain ⟨ls,hls⟩:∃ls,Cc (AT s) f r=ls:=⟨_,rfl⟩;rw [hls] at CM sm e;(repeat' first | refine zS CT ?_ | refine zS CL ?_ | refine zS CM ?_ | refine zQ ?_ | (refine zN ?_;intro K hC hK) | (refine zM ?_;try clear hK hC K) | (refine zC ?_ ?_<;>intro hb) | (refine zK ?_;intro Jo JU JC AH AJ AG))
   refine At (α:=Nat×List (List Gp)) (fun x=>[(1,AN false bag),(2, .ref 0 0 0 0),(5,EG false x.2),(6,I k),(7, .ref 1 0 0 0),(8,EG false ls),(9,I x.1)]) (fun _=>[(0, .arr 0 9 [AO s]),(1, .arr 0 3 [AZ (gp 4 k)])]) (fun x=>ls.length-x.1) (fun x=>x.1≤ls.length∧x.2=DB (gp 4 k) out (ls.take x.1)) [(0,0),(1076,1)] [(0,0),(1,1)] 0 [1,2,5,6,7,8,9] 900 zf zf (0,out) ⟨Nat.zero_le _,rfl⟩ (by exact CZ) ?_;rintro ⟨n,o2⟩ ⟨hn2,ho2⟩ J2 hcJ2 hJ2;dsimp only at hn2 ho2 hJ2 ⊢;have sgg:Sg [gp 4 (k:Int)]:=fun z hz=>by simp at hz;subst hz;simp [gp];omega
   have so:Sl o2:=fun x hx=>by
    rw [ho2] at hx;rcases EI hx with hx | ⟨y,hy,rfl⟩
    ·exact ⟨(small.2 x hx).1,by have:=(small.2 x hx).2;omega⟩
    ·have hy:=sm.2 y (List.mem_of_mem_take hy);exact ⟨E5 hy.1 sgg,by rw [D6];have:=hy.2;omega⟩
   have lo2:o2.length≤1000000000:=by
    have h1:=DR (g:=gp 4 (k:Int)) (ls.take n) out;rw [←ho2,List.length_take] at h1;omega
   by_cases h3:n<ls.length
   ·have sy:=sm.2 ls[n] (List.getElem_mem h3);have CW:=Fg ls[n] (gp 4 (k:Int)) sy.1 sgg (by omega);have CA:=KB o2 (BN ls[n] (gp 4 (k:Int))) so (E5 sy.1 sgg) (by rw [D6];omega) lo2;have hl2:ls.length≤2 ^ 20:=by omega
    (repeat' first | refine zS CW ?_ | refine zS CA ?_ | refine zQ ?_ | (refine zN ?_;intro K hC hK) | (refine zM ?_;try clear hK hC K) | (refine zC ?_ ?_<;>intro hb) | (refine zK ?_;intro Jo JU JC AH AJ AG))
    refine hJ2 _ (n+1,E0 o2 (BN ls[n] (gp 4 (k:Int)))) (by simp;omega) ⟨by simp;omega,by rw [ho2];exact Hz _ out ls h3⟩ (by exact CZ)
   ·(repeat' first | refine zQ ?_ | (refine zN ?_;intro K hC hK) | (refine zM ?_;try clear hK hC K) | (refine zC ?_ ?_<;>intro hb) | (refine zK ?_;intro Jo JU JC AH AJ AG))
    have e2:ls.take n=ls:=List.take_of_length_le (by omega);refine hJ _ (k+1,o2) (by simp;omega) ⟨by simp;omega,by rw [hst,e,ho2,e2]⟩ (by exact CZ)
 ·(repeat' first | refine zQ ?_ | (refine zN ?_;intro K hC hK) | (refine zM ?_;try clear hK hC K) | (refine zC ?_ ?_<;>intro hb) | (refine zK ?_;intro Jo JU JC AH AJ AG))
  refine Aa [] ?_ ?_<;>(first | exact AK | refine zE ?_);obtain rfl:k=bag.length:=by omega
  rw [hout];rfl
def Ec (s:AL) (bag:List Int):List (List Gp):=if AP s=0∧Be s bag=0∧bag.sum % 3=2∧bag.sum≤3*s.me+2 then Eg (AT s) 20 bag else []
theorem Mx {s:AL} {bag:List Int} (hv:AP s=0) (h:Be s bag=0):Sb bag∧(bag.length:Int)=AY s∧0≤bag.sum:=by
 obtain ⟨h1,h2⟩:=Ha h;have:=(AU hv).co;exact ⟨fun i=>Lu (P:=fun z=>0≤z∧z≤1000) (fun z hz=>by have:=h2 z hz;omega) (by omega) i,h1,GJ fun z hz=>(h2 z hz).1⟩
def JR:List Int→List Int
 | [a,b,c]=>[a,a+3,a+6,9+b,9+b+3,9+b+6,18+c,18+c+3,18+c+6]
 | _=>[]
def Fk (a b:Nat):Nat:=2*a+b-if a<b then 1 else 0
def Qn (rn:Int→Bool) (f:Nat) (bag:List Int) (a b:Nat):List (List Gp):=(Au.take (Fk a b)).foldl (H9 rn f JR bag) []
theorem Vy {rn:Int→Bool} {f:Nat} {bag:List Int} {a:Nat} (h:a<3):Qn rn f bag a 3=Qn rn f bag (a+1) 0:=by
 rcases (show a=0∨a=1∨a=2 by omega) with rfl | rfl | rfl<;>rfl
theorem VT {rn:Int→Bool} {f:Nat} {bag:List Int} {a:Nat} (h:a<3):Qn rn f bag a (a+1)=Qn rn f bag a a:=by
 rcases (show a=0∨a=1∨a=2 by omega) with rfl | rfl | rfl<;>rfl
theorem VJ {rn:Int→Bool} {f:Nat} {bag:List Int} {a b:Nat} (h:a<3) (h2:b<3) (hne:a≠b):Qn rn f bag a (b+1)=H9 rn f JR bag (Qn rn f bag a b) [(a:Int),(b:Int),3-(a:Int)-(b:Int)]:=by
 rcases (show a=0∨a=1∨a=2 by omega) with rfl | rfl | rfl<;>rcases (show b=0∨b=1∨b=2 by omega) with rfl | rfl | rfl<;>first | rfl | exact absurd rfl hne
theorem Wy {rn:Int→Bool} {f:Nat} {bag:List Int}:Qn rn f bag 3 0=Iv rn f JR bag:=rfl
theorem WW {a b c:Int} {i:Nat} (h:i<9) {x:Int} (hx:[a,b,c][i / 3]? =some x):(JR [a,b,c]).take (i+1)=(JR [a,b,c]).take i++[9*((i / 3:Nat):Int)+x+3*((i % 3:Nat):Int)]:=by
 rcases (show i=0∨i=1∨i=2∨i=3∨i=4∨i=5∨i=6∨i=7∨i=8 by omega) with rfl | rfl | rfl | rfl | rfl | rfl | rfl | rfl | rfl<;>simp at hx<;>subst hx<;>simp [JR]<;>omega
theorem SW {a b c:Int} {n:Nat} (ha:0≤a∧a≤2) (hb:0≤b∧b≤2) (hc:0≤c∧c≤2) (hn:27≤n):D8 n (JR [a,b,c]):=fun z hz=>by
 simp [JR] at hz;omega
theorem P0 (a b c:Int):(JR [a,b,c]).length=9:=rfl
structure XY (m:Nat) (out:List (List Gp)):Prop where
 ln:out.length≤m
 sg:∀x∈out,Sg x∧x.length≤20
theorem jT {s:AL} {n:Nat} (hn:(n:Int)=AY s) {bag:List Int} {x:List Gp} (h:Hu n (AT s) bag x):Sg x:=fun g hg=>by
 have hK:=GM s;rcases h.me g hg with h | h
 ·rcases h.2.2.2 with e | ⟨e,_⟩<;>(have:=h.2.1;have:=h.2.2.1;omega)
 ·have:=h.2.1;have:=h.2.2.1;have:=h.2.2.2;omega
set_option maxHeartbeats 8000000 in
theorem Uf (s:AL) (hv:AP s=0) (bag:List Int) (hb:Sb bag) (hn:(bag.length:Int)=AY s) (hs:bag.sum≤14) (h27:27≤bag.length):AM Tryz.prog 142 [AO s,AN false bag] (EG false (Iv (AT s) 20 JR bag)):=by
 have hK:=GM s;refine E3 ?_;obtain ⟨O,hO⟩:∃O,Qn (AT s) 20 bag=O:=⟨_,rfl⟩;have hO0:O 0 0=[]:=by rw [←hO];rfl
 refine zb Tryz.ntmps142 ?_;let tb:=bE;let lv:=Vw;(repeat' first | refine zQ ?_ | (refine zN ?_;intro K hC hK) | (refine zM ?_;try clear hK hC K) | (refine zC ?_ ?_<;>intro hb) | (refine zK ?_;intro Jo JU JC AH AJ AG))
 refine At (α:=Nat) (fun a=>[(1,AN false bag),(2, .ref 0 0 0 0),(5,EG false (O a 0)),(6,I a)]) (fun _=>[(0, .arr 0 9 [AO s])]) (fun a=>3-a) (fun a=>a≤3∧XY (Fk a 0) (O a 0)) [(0,0)] [(0,0)] 1 [1,2,5,6] 900 zf zf 0 ⟨Nat.zero_le _,by rw [hO0];exact ⟨Nat.zero_le _,fun x h=>by cases h⟩⟩ (by (have fa:=hO0;exact CZ)) ?_;rintro a ⟨ha,hOa⟩ J hcJ hJ;try dsimp only at ha hOa hJ ⊢
 by_cases h:a<3
 ·(repeat' first | refine zQ ?_ | (refine zN ?_;intro K hC hK) | (refine zM ?_;try clear hK hC K) | (refine zC ?_ ?_<;>intro hb) | (refine zK ?_;intro Jo JU JC AH AJ AG))
  refine At (α:=Nat) (fun b=>[(1,AN false bag),(2, .ref 0 0 0 0),(5,EG false (O a b)),(6,I a),(7,I b)]) (fun _=>[(0, .arr 0 9 [AO s])]) (fun b=>3-b) (fun b=>b≤3∧XY (Fk a b) (O a b)) [(0,0)] [(0,0)] 1 [1,2,5,6,7] 900 zf zf 0 ⟨Nat.zero_le _,hOa⟩ (by exact CZ) ?_;rintro b ⟨hb3,hOb⟩ J2 hcJ2 hJ2;try dsimp only at hb3 hOb hJ2 ⊢
  by_cases hlt:b<3
  ·by_cases hab:a=b
   ·subst hab;have hsame:O a (a+1)=O a a:=by rw [←hO];exact VT h
    (repeat' first | refine zQ ?_ | (refine zN ?_;intro K hC hK) | (refine zM ?_;try clear hK hC K) | (refine zC ?_ ?_<;>intro hb) | (refine zK ?_;intro Jo JU JC AH AJ AG))
    exact hJ2 _ (a+1) (by omega) ⟨by omega,by rw [hsame,show Fk a (a+1)=Fk a a by unfold Fk;rw [if_pos (by omega),if_neg (by omega)];omega];exact hOb⟩ (by (have fa:=hsame;exact CZ))
   ·have hnx:O a (b+1)=H9 (AT s) 20 JR bag (O a b) [(a:Int),(b:Int),3-(a:Int)-(b:Int)]:=by rw [←hO];exact VJ h hlt hab
    have hsn:Fk a b+1≤Fk a (b+1):=by
     unfold Fk;by_cases h1:a<b
     ·rw [if_pos h1,if_pos (by omega)];omega
     ·rw [if_neg h1,if_neg (by omega)];omega
    have hsn6:Fk a b≤8:=by unfold Fk;omega
    obtain ⟨N,hN⟩:∃N,O a b=N:=⟨_,rfl⟩;rw [hN] at hnx hOb;obtain ⟨c,hc⟩:∃c:Int,3-(a:Int)-(b:Int)=c:=⟨_,rfl⟩;rw [hc] at hnx;have hc2:0≤c∧c≤2:=by omega
    have hne:¬(a:Int)=(b:Int):=by omega
    have hink:=SW (a:=a) (b:=b) (c:=c) (n:=bag.length) (by omega) (by omega) hc2 h27;have hnkl:=P0 (a:Int) (b:Int) c;have hnkt:∀i:Nat,i<9→∀x:Int,[(a:Int),(b:Int),c][i / 3]? =some x→(JR [(a:Int),(b:Int),c]).take (i+1)=(JR [(a:Int),(b:Int),c]).take i++[9*((i / 3:Nat):Int)+x+3*((i % 3:Nat):Int)]:=fun i h x hx=>WW h hx
    obtain ⟨nk,hnk⟩:∃nk,JR [(a:Int),(b:Int),c]=nk:=⟨_,rfl⟩;have hst:H9 (AT s) 20 JR bag N [(a:Int),(b:Int),c]=match BX bag nk with
      | none=>N
      | some r=>(Eg (AT s) 20 r).foldl (fun out l=>E0 out (nk.foldl (fun x z=>BN x (gp 5 z)) l)) N:=by rw [H9,hnk];cases BX bag nk<;>rfl
    rw [hnk] at hink hnkl hnkt;rw [hst] at hnx;clear hst;rw [hN];(have fa:=hc;(repeat' first | refine zQ ?_ | (refine zN ?_;intro K hC hK) | (refine zM ?_;try clear hK hC K) | (refine zC ?_ ?_<;>intro hb) | (refine zK ?_;intro Jo JU JC AH AJ AG))<;>(try clear fa))
    refine A8 (BY 8 500 0 1 (by rfl) (by rfl)) (α:=Nat×Nat) (fun x=>[(1,AN false bag),(2, .ref 0 0 0 0),(5,EG false N),(6,I a),(7,I b),(8, .rsl 1 x.2 0 x.1),(9, .rsl 2 0 0 3),(10,I x.1)]) (fun x=>[(0, .arr 0 9 [AO s]),(1, .arr x.2 1 ((nk.take x.1).map I)),(2, .arr 0 1 [I a,I b,I c])]) (fun x=>9-x.1) (fun x=>x.1≤9) [(0,0),(500,1),(1092,2)] [(0,0),(1,1),(2,2)] 1 [1,2,5,6,7,8,9,10] 900 zf zf (0,0) (Nat.zero_le _) (by (have fa:=(And.intro @Dg.eq_1 (And.intro (And.intro @Ci.eq_1 @Ci.eq_2) hc));exact CZ)) ?_;rintro ⟨i,g⟩ hi9 J3 hcJ3 hJ3;dsimp only at hi9 hJ3 ⊢;have hTn:(nk.take i).take i=nk.take i:=by rw [List.take_take,Nat.min_self]
    have hTl:(nk.take i).length=i:=by rw [List.length_take];omega
    by_cases hlt3:i<9
    ·have hd:i / 3<3:=by omega
     have hm:i % 3<3:=by omega
     have htd:(i:Int).tdiv 3=((i / 3:Nat):Int):=by rw [Int.tdiv_eq_ediv_of_nonneg (by omega)];omega
     have htm:(i:Int).tmod 3=((i % 3:Nat):Int):=by rw [Int.tmod_eq_emod_of_nonneg (by omega)];omega
     obtain ⟨x,hx,hx2⟩:∃x:Int,[(a:Int),(b:Int),c][i / 3]? =some x∧0≤x∧x≤2:=by
      rcases (show i / 3=0∨i / 3=1∨i / 3=2 by omega) with e | e | e<;>rw [e]<;>exact ⟨_,rfl,by omega,by omega⟩
     have hnx3:Dv [I a,I b,I c] (i / 3)=I x:=by
      rcases (show i / 3=0∨i / 3=1∨i / 3=2 by omega) with e | e | e<;>rw [e] at hx ⊢<;>simp at hx<;>rw [←hx]<;>rfl
     have ht:=hnkt i hlt3 x hx;obtain ⟨d,hdd⟩:∃d,i / 3=d:=⟨_,rfl⟩;obtain ⟨m,hmm⟩:∃m,i % 3=m:=⟨_,rfl⟩;rw [hdd] at hd htd hnx3 ht;rw [hmm] at hm htm ht;obtain ⟨M,hM⟩:∃M,nk.take i=M:=⟨_,rfl⟩;rw [hM] at hTn hTl ht ⊢;(have fa:=(And.intro htd (And.intro htm (And.intro hnx3 (And.intro hTn hTl))));(repeat' first | refine zQ ?_ | (refine zN ?_;intro K hC hK) | (refine zM ?_;try clear hK hC K) | (refine zC ?_ ?_<;>intro hb) | (refine zK ?_;intro Jo JU JC AH AJ AG))<;>(try clear fa))
     exact hJ3 _ (i+1,g+1) (by dsimp only;omega) (by dsimp only;omega) (by (have fa:=ht;exact CZ))
    ·obtain rfl:i=9:=by omega
     rw [List.take_of_length_le (show nk.length≤9 by omega)] at hTn ⊢;have CL:=Fh bag nk hb hink (by omega) (by omega);have hN9:9≤nk.length:=by omega
     cases hle:BX bag nk with
     | none =>
      rw [hle] at CL hnx;have CL:AM Tryz.prog 146 [AN false bag,AN false nk] (.v (.slice none 0 0)):=CL;dsimp only at hnx;(have fa:=(And.intro @Ks.eq_1 (And.intro @Bw.eq_1 (And.intro hTn hN9)));(repeat' first | refine zS CL ?_ | refine zQ ?_ | (refine zN ?_;intro K hC hK) | (refine zM ?_;try clear hK hC K) | (refine zC ?_ ?_<;>intro hb) | (refine zK ?_;intro Jo JU JC AH AJ AG))<;>(try clear fa))
      exact hJ2 _ (b+1) (by omega) ⟨by omega,by rw [hnx];exact ⟨by have:=hOb.ln;omega,hOb.sg⟩⟩ (by (have fa:=hnx;exact CZ))
     | some r =>
      rw [hle] at CL hnx;have CL:AM Tryz.prog 146 [AN false bag,AN false nk] (AN true r):=CL;dsimp only at hnx;obtain ⟨r1,r2,r3⟩:=IY hb hink hle;have rne:r≠[]:=fun h=>by rw [h] at r2;simp at r2;omega
      have CSp:=Jc s hv 20 r (by omega) r1 (by omega) (by omega);have hr:C7 r.length (AT s):=fun k h=>by have:=Ct h;omega
      have hbg:Bg r.length r:=⟨rfl,fun i=>(r1 i).1⟩;obtain ⟨p1,p2⟩:=Fb hr hbg (f:=20) (by omega);obtain ⟨ls,hls⟩:∃ls,Eg (AT s) 20 r=ls:=⟨_,rfl⟩;rw [hls] at CSp hnx p1 p2;have hl1:ls.length≤1:=by
       match ls,p1,p2 with
       | [],_,_=>simp
       | [_],_,_=>simp
       | x::y::l,p1,p2 =>
        exfalso;have h1:=(p2 x).1 (by simp);have h2:=(p2 y).1 (by simp);have e:=YR hr hbg (by omega) h1 h2;have h3:=(List.pairwise_cons.1 p1).1 y (by simp);rw [e,Ez] at h3;omega
      have hlx:∀x∈ls,Sg x∧x.length≤2:=fun x hx=>by
       have h1:=(p2 x).1 hx;have h2:=h1.len hr hbg;exact ⟨jT (by omega) h1,by omega⟩
      clear p1 p2 hr hbg hle;(have fa:=(And.intro @Ks.eq_1 (And.intro rne (And.intro @List.map_eq_nil_iff.{0,0} (And.intro @ne_eq.{1} (And.intro @not_false_eq_true (And.intro hTn hN9))))));(repeat' first | refine zS CL ?_ | refine zS CSp ?_ | refine zQ ?_ | (refine zN ?_;intro K hC hK) | (refine zM ?_;try clear hK hC K) | (refine zC ?_ ?_<;>intro hb) | (refine zK ?_;intro Jo JU JC AH AJ AG))<;>(try clear fa))
      refine At (α:=Nat×List (List Gp)) (fun x=>[(1,AN false bag),(2, .ref 0 0 0 0),(5,EG false x.2),(6,I a),(7,I b),(8,AN true nk),(12,EG false ls),(13,I x.1)]) (fun _=>[(0, .arr 0 9 [AO s])]) (fun x=>ls.length-x.1) (fun x=>x.1≤ls.length∧x.2=(ls.take x.1).foldl (fun out l=>E0 out (nk.foldl (fun x z=>BN x (gp 5 z)) l)) N∧XY (Fk a b+x.1) x.2) [(0,0)] [(0,0)] 1 [1,2,5,6,7,8,12,13] 900 zf zf (0,N) ⟨Nat.zero_le _,rfl,hOb⟩ (by (have fa:=(And.intro hTn hN9);exact CZ)) ?_;rintro ⟨n,out⟩ ⟨hn4,hout,hOk⟩ J4 hcJ4 hJ4;dsimp only at hn4 hout hOk hJ4 ⊢;by_cases hlt4:n<ls.length
      ·obtain ⟨l,hl⟩:∃l,ls[n]=l:=⟨_,rfl⟩;obtain ⟨hl1',hl2⟩:=hlx l (by rw [←hl];exact List.getElem_mem hlt4);have hts:ls.take (n+1)=ls.take n++[l]:=by rw [List.take_succ_eq_append_getElem hlt4,hl]
       obtain ⟨X,hX⟩:∃X:Nat→List Gp,(fun i=>(nk.take i).foldl (fun x z=>BN x (gp 5 z)) l)=X:=⟨_,rfl⟩;have hX0:X 0=l:=by rw [←hX];rfl
       have hX9:X 9=nk.foldl (fun x z=>BN x (gp 5 z)) l:=by rw [←hX];dsimp only;rw [List.take_of_length_le (by omega)]
       have hXs:∀i,(h:i<nk.length)→X (i+1)=BN (X i) (gp 5 nk[i]):=fun i h=>by
        rw [←hX];dsimp only;rw [List.take_succ_eq_append_getElem h,List.foldl_append];rfl
       clear hX;(have fa:=hl;(repeat' first | refine zQ ?_ | (refine zN ?_;intro K hC hK) | (refine zM ?_;try clear hK hC K) | (refine zC ?_ ?_<;>intro hb) | (refine zK ?_;intro Jo JU JC AH AJ AG))<;>(try clear fa))
       refine At (α:=Nat) (fun i=>[(1,AN false bag),(2, .ref 0 0 0 0),(5,EG false out),(6,I a),(7,I b),(8,AN true nk),(12,EG false ls),(13,I n),(14,AX false (X i)),(15,I i)]) (fun _=>[(0, .arr 0 9 [AO s])]) (fun i=>9-i) (fun i=>i≤9∧Sg (X i)∧(X i).length≤2+i) [(0,0)] [(0,0)] 1 [1,2,5,6,7,8,12,13,14,15] 900 zf zf 0 ⟨Nat.zero_le _,by rw [hX0];exact hl1',by rw [hX0];exact hl2⟩ (by (have fa:=hX0;exact C8)) ?_;rintro i ⟨hi5,hXg,hXl⟩ J5 hcJ5 hJ5;try dsimp only at hi5 hXg hXl hJ5 ⊢
       by_cases hlt5:i<9
       ·have hin:i<nk.length:=by omega
        have hxs:=hXs i hin;obtain ⟨z,hz⟩:∃z,nk[i]=z:=⟨_,rfl⟩;have hzi:=hink z (by rw [←hz];exact List.getElem_mem hin);rw [hz] at hxs;have hSg:Sg [gp 5 z]:=fun x hx=>by simp at hx;subst hx;simp;omega
        have CW:=Fg (X i) (gp 5 z) hXg hSg (by omega);have h5:AV.agg [I 5,I z,B false]=AZ (gp 5 z):=rfl;(have fa:=(And.intro hz h5);(repeat' first | refine zS CW ?_ | refine zQ ?_ | (refine zN ?_;intro K hC hK) | (refine zM ?_;try clear hK hC K) | (refine zC ?_ ?_<;>intro hb) | (refine zK ?_;intro Jo JU JC AH AJ AG))<;>(try clear fa))
        exact hJ5 _ (i+1) (by omega) ⟨by omega,by rw [hxs];exact E5 hXg hSg,by rw [hxs,D6];omega⟩ (by (have fa:=hxs;exact C8))
       ·obtain rfl:i=9:=by omega
        rw [hX9] at hXg hXl ⊢;have hox:(ls.take (n+1)).foldl (fun out l=>E0 out (nk.foldl (fun x z=>BN x (gp 5 z)) l)) N=E0 out (nk.foldl (fun x z=>BN x (gp 5 z)) l):=by
         rw [hts,List.foldl_append,←hout];rfl
        obtain ⟨Z,hZ⟩:∃Z,nk.foldl (fun x z=>BN x (gp 5 z)) l=Z:=⟨_,rfl⟩;rw [hZ] at hXg hXl hox ⊢;have CA:=KB out Z (fun x hx=>⟨(hOk.sg x hx).1,by have:=(hOk.sg x hx).2;omega⟩) hXg (by omega) (by have:=hOk.ln;omega);(repeat' first | refine zS CA ?_ | refine zQ ?_ | (refine zN ?_;intro K hC hK) | (refine zM ?_;try clear hK hC K) | (refine zC ?_ ?_<;>intro hb) | (refine zK ?_;intro Jo JU JC AH AJ AG))
        exact hJ4 _ (n+1,E0 out Z) (by dsimp only;omega) ⟨by dsimp only;omega,hox.symm,⟨by have:=hOk.ln;have:=Q6 out Z;dsimp only;omega,fun x hx=>by
         rcases Ro hx with rfl | h
         ·exact ⟨hXg,by omega⟩
         ·exact hOk.sg x h⟩⟩ (by exact CZ)
      ·obtain rfl:n=ls.length:=by omega
       rw [List.take_length] at hout;rw [←hout] at hnx;(repeat' first | refine zQ ?_ | (refine zN ?_;intro K hC hK) | (refine zM ?_;try clear hK hC K) | (refine zC ?_ ?_<;>intro hb) | (refine zK ?_;intro Jo JU JC AH AJ AG))
       exact hJ2 _ (b+1) (by omega) ⟨by omega,by rw [hnx];exact ⟨by have:=hOk.ln;omega,hOk.sg⟩⟩ (by (have fa:=hnx;exact CZ))
  ·obtain rfl:b=3:=by omega
   have hrow:O a 3=O (a+1) 0:=by rw [←hO];exact Vy h
   rw [hrow] at hOb ⊢;(repeat' first | refine zQ ?_ | (refine zN ?_;intro K hC hK) | (refine zM ?_;try clear hK hC K) | (refine zC ?_ ?_<;>intro hb) | (refine zK ?_;intro Jo JU JC AH AJ AG))
   exact hJ _ (a+1) (by omega) ⟨by omega,by rw [show Fk (a+1) 0=Fk a 3 by unfold Fk;rw [if_neg (by omega),if_pos (by omega)];omega];exact hOb⟩ (by exact CZ)
 ·obtain rfl:a=3:=by omega
  have hend:O 3 0=Iv (AT s) 20 JR bag:=by rw [←hO];exact Wy
  (repeat' first | refine zQ ?_ | (refine zN ?_;intro K hC hK) | (refine zM ?_;try clear hK hC K) | (refine zC ?_ ?_<;>intro hb) | (refine zK ?_;intro Jo JU JC AH AJ AG))
  refine Aa [] ?_ ?_<;>(first | exact AK | refine zE ?_);rw [hend]
end Go.Proofs.YthblfhgofopcaaaGreat
