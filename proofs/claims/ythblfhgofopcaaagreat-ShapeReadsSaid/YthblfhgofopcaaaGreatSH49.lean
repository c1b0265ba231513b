/-
  Parts of the proof: WReads.
-/
import Derived.Test.YthblfhgofopcaaaGreatSH13
import Derived.Test.YthblfhgofopcaaaGreatSH14
import Derived.Test.YthblfhgofopcaaaGreatSH42
import Derived.Test.YthblfhgofopcaaaGreatSH48
set_option linter.all false
namespace Go.Proofs.YthblfhgofopcaaaGreat
open Go.RowKit
set_option maxRecDepth 100000
set_option maxHeartbeats 2000000
theorem QI (r:Rg) (h:r.gs.length≤1000000):AM Tryz.prog 86 [Hi false r,Hi false r] (B true):=by
 have CG:=FO r.gs r.gs h;rw [decide_eq_true rfl] at CG;obtain ⟨fm,gs,at_⟩:=r;refine zb Tryz.ntmps86 ?_;let tb:=fH;let lv:=Z8;(repeat' first | refine zS CG ?_ | refine zQ ?_ | (refine zN ?_;intro K hC hK) | (refine zM ?_;try clear hK hC K) | (refine zC ?_ ?_<;>intro hb) | (refine zK ?_;intro Jo JU JC AH AJ AG))
 all_goals refine Aa [] ?_ ?_<;>(first | exact AK | refine zE ?_)
theorem J7 (l:List Rg) (h0:l.length≤1000000000000) (h:∀r∈l,r.gs.length≤1000000):AM Tryz.prog 27 [N0 false l,N0 false l] (B true):=by
 refine zb Tryz.ntmps27 ?_;let tb:=gM;let lv:=Zk;(have fa:= @bne_self_eq_false.{0};(repeat' first | refine zQ ?_ | (refine zN ?_;intro K hC hK) | (refine zM ?_;try clear hK hC K) | (refine zC ?_ ?_<;>intro hb) | (refine zK ?_;intro Jo JU JC AH AJ AG))<;>(try clear fa))
 refine Ab l.length (fun j σ=>σ=⟨900,[(0,N0 false l),(1,N0 false l),(5,I j)],[]⟩) [] [] 0 [0,1,5] 900 zf zf (by exact zV) ?_;rintro j σ' hj rfl J hcJ hJ;by_cases hlt:j<l.length
 ·obtain ⟨r,hr⟩:∃r,l[j]=r:=⟨_,rfl⟩;have CS:=QI r (h r (by rw [←hr];exact List.getElem_mem hlt));(have fa:=hr;(repeat' first | refine zS CS ?_ | refine zQ ?_ | (refine zN ?_;intro K hC hK) | (refine zM ?_;try clear hK hC K) | (refine zC ?_ ?_<;>intro hb) | (refine zK ?_;intro Jo JU JC AH AJ AG))<;>(try clear fa))
  exact hJ _ hlt (by exact zV)
 ·obtain rfl:j=l.length:=by omega
  (repeat' first | refine zQ ?_ | (refine zN ?_;intro K hC hK) | (refine zM ?_;try clear hK hC K) | (refine zC ?_ ?_<;>intro hb) | (refine zK ?_;intro Jo JU JC AH AJ AG))
  refine Aa [] ?_ ?_<;>(first | exact AK | refine zE ?_)
theorem PJ (l:List Fm) (h0:l.length≤1000000) (h:∀f∈l,f.ks.length≤1000000):AM Tryz.prog 24 [Bh false l,Bh false l] (B true):=by
 refine zb Tryz.ntmps24 ?_;let tb:=fN;let lv:=cU;(have fa:= @bne_self_eq_false.{0};(repeat' first | refine zQ ?_ | (refine zN ?_;intro K hC hK) | (refine zM ?_;try clear hK hC K) | (refine zC ?_ ?_<;>intro hb) | (refine zK ?_;intro Jo JU JC AH AJ AG))<;>(try clear fa))
 refine Ab l.length (fun j σ=>σ=⟨900,[(0,Bh false l),(1,Bh false l),(5,I j)],[]⟩) [] [] 0 [0,1,5] 900 zf zf (by exact zV) ?_;rintro j σ' hj rfl J hcJ hJ;by_cases hlt:j<l.length
 ·obtain ⟨r,hr⟩:∃r,l[j]=r:=⟨_,rfl⟩;have CS:=Hs r.ks (h r (by rw [←hr];exact List.getElem_mem hlt));(have fa:=(And.intro hr @bne_self_eq_false.{0});(repeat' first | refine zS CS ?_ | refine zQ ?_ | (refine zN ?_;intro K hC hK) | (refine zM ?_;try clear hK hC K) | (refine zC ?_ ?_<;>intro hb) | (refine zK ?_;intro Jo JU JC AH AJ AG))<;>(try clear fa))
  exact hJ _ hlt (by exact zV)
 ·obtain rfl:j=l.length:=by omega
  (repeat' first | refine zQ ?_ | (refine zN ?_;intro K hC hK) | (refine zM ?_;try clear hK hC K) | (refine zC ?_ ?_<;>intro hb) | (refine zK ?_;intro Jo JU JC AH AJ AG))
  refine Aa [] ?_ ?_<;>(first | exact AK | refine zE ?_)
theorem QY (l:List Fm) (hp:0<l.length) (h0:l.length≤1000000) (h:∀f∈l,f.ks.length≤1000000):AM Tryz.prog 19 [Bh false l] (Bh true l):=by
 refine zb Tryz.ntmps19 ?_;let tb:=gW;let lv:=aD;(repeat' first | refine zQ ?_ | (refine zN ?_;intro K hC hK) | (refine zM ?_;try clear hK hC K) | (refine zC ?_ ?_<;>intro hb) | (refine zK ?_;intro Jo JU JC AH AJ AG))
 refine A8 (BY 3 500 0 3 (by rfl) (by rfl)) (α:=Nat×Nat) (fun a=>[(0,Bh false l),(3, .rsl 0 a.2 0 (l.take a.1).length),(4,I a.1)]) (fun a=>[(0, .arr a.2 3 ((l.take a.1).map (DN true)))])
  (fun a=>l.length-a.1) (fun a=>a.1≤l.length) [(500,0)] [(0,0)] 1 [0,3,4] 900 zf zf (0,0) (Nat.zero_le _) (by (have fa:=(And.intro @Dg.eq_1 (And.intro @Ci.eq_1 @Ci.eq_2));exact CZ)) ?_
 rintro ⟨k,g⟩ hk J hcJ hJ;dsimp only at hk hJ ⊢;by_cases hlt:k<l.length
 ·obtain ⟨f,hf⟩:∃f,l[k]=f:=⟨_,rfl⟩;have hfl:=h f (by rw [←hf];exact List.getElem_mem hlt);have hst:l.take (k+1)=l.take k++[f]:=by rw [List.take_succ_eq_append_getElem hlt,hf]
  have hln:(l.take k).length=k:=by rw [List.length_take];omega
  obtain ⟨L,hL⟩:∃L,l.take k=L:=⟨_,rfl⟩;rw [hL] at hst hln ⊢;have hTL:L.take L.length=L:=List.take_length;have hTk:f.ks.take f.ks.length=f.ks:=List.take_length;have hx:AV.agg [I f.wh,AN true f.ks,B f.ag]=DN true f:=rfl;(have fa:=(And.intro hf (And.intro hTL hTk));(repeat' first | refine zQ ?_ | (refine zN ?_;intro K hC hK) | (refine zM ?_;try clear hK hC K) | (refine zC ?_ ?_<;>intro hb) | (refine zK ?_;intro Jo JU JC AH AJ AG))<;>(try clear fa))
  exact hJ _ (k+1,g+1) (by dsimp only;omega) (by dsimp only;omega) (by (have fa:=(And.intro hst (And.intro @List.length_append.{0} (And.intro hx hTk)));exact C8))
 ·obtain rfl:k=l.length:=by omega
  (have fa:= @List.take_length.{0};(repeat' first | refine zQ ?_ | (refine zN ?_;intro K hC hK) | (refine zM ?_;try clear hK hC K) | (refine zC ?_ ?_<;>intro hb) | (refine zK ?_;intro Jo JU JC AH AJ AG))<;>(try clear fa))
  refine Aa [] ?_ ?_<;>(first | exact AK | refine zE ?_)
theorem UK {me:List Gp} {last fm:Int} {c:List Gp}:∀n,∀r∈L2 me last fm c n,r.gs=me++c
 | 0=>fun r hr=>by cases hr
 | n+1=>fun r hr=>by
  rw [L2] at hr;rcases List.mem_append.1 hr with hr | hr
  ·exact UK n r hr
  ·split at hr
   ·simp at hr;subst hr;rfl
   ·cases hr
theorem Ty {A:Fm→List (List Gp)} {me:List Gp} {last:Int} {l:List Fm}:∀n,∀r∈Kn A me last l n,∃f∈l,∃c∈A f,r.gs=me++c
 | 0=>fun r hr=>by cases hr
 | n+1=>fun r hr=>by
  rw [Kn] at hr;rcases List.mem_append.1 hr with hr | hr
  ·exact Ty n r hr
  ·split at hr
   ·cases hr
   ·rename_i f hf;unfold N7 at hr;obtain ⟨c,hc,hr⟩:=List.mem_flatMap.1 hr;exact ⟨f,List.mem_of_getElem? hf,c,hc,UK _ r hr⟩
def Mz (s:AL) (l:List Fm) (h:Hd) (last:Int):List Rg:=GI s h (Hf s h) l last
theorem K9 {s:AL} {l:List Fm} {h:Hd} (last:Int) (S:FM s l h):AM Tryz.prog 28 [AO s,Bh false l,Cb false h,I last] (N0 false (Mz s l h last)) :=
 JG s h (Hf s h) l last S.f S.l S.s S.m S.b fun hf hu f hm=>⟨Nm (HW hf f hm) hu,LU s f h (HW hf f hm) hu⟩
theorem K4 {s:AL} {l:List Fm} {h:Hd} (last:Int) (S:FM s l h):AM Tryz.prog 29 [AO s,Bh false l,Cb false h,I last] (N0 false (Mz s l h last)) :=
 NK s h (Hf s h) l last S.f S.l S.s S.m S.b fun hf hu f hm=>⟨Nm ((Ht hf).2.2 f hm) hu,Kp s f h ((Ht hf).2.2 f hm) hu⟩
theorem SA {s:AL} {l:List Fm} {h:Hd} (last:Int) (hl:l.length≤100) (hm:h.me.length≤100):(Mz s l h last).length≤1000000000000∧∀r∈Mz s l h last,r.gs.length≤1000000:=by
 unfold Mz GI;split
 ·rename_i ha;unfold RJ at ha;simp only [Bool.and_eq_true,decide_eq_true_eq] at ha;obtain ⟨⟨⟨⟨c1,c2⟩,_⟩,_⟩,_⟩:=ha;have hA:∀f∈l,Yx s (Hf s h f):=fun f hf=>Nm (HW c1 f hf) c2
  refine ⟨?_,fun r hr=> ?_⟩
  ·have:=Lz (Hf s h) h.me last (fs:=l) (a:=100000) (m:=100) (fun f hf=>⟨(hA f hf).ln,fun c hc=>((hA f hf).w c hc).2.1⟩) l.length;have h2:=Nat.mul_le_mul_right (100000*100) hl;omega
  ·obtain ⟨f,hf,c,hc,e⟩:=Ty _ r hr;have:=((hA f hf).w c hc).2.1;rw [e,List.length_append];omega
 ·exact ⟨by simp,fun r hr=>by cases hr⟩
set_option maxHeartbeats 8000000 in
theorem Rr (s:AL) (l:List Fm) (h:Hd) (last:Int) (nums:List Int) (hn:nums.length≤9223372036854775807):AM Tryz.prog 4 [AO s,Bh false l,Cb false h,I last,AN false nums] (B true):=by
 have CB:=RT s l h;cases c:NJ s l h with
 | true =>
  rw [c] at CB;refine zb Tryz.ntmps4 ?_;let tb:=dO;let lv:=Xa;(repeat' first | refine zS CB ?_ | refine zS Gy ?_ | refine zQ ?_ | (refine zN ?_;intro K hC hK) | (refine zM ?_;try clear hK hC K) | (refine zC ?_ ?_<;>intro hb) | (refine zK ?_;intro Jo JU JC AH AJ AG))
  refine Aa [] ?_ ?_<;>(first | exact AK | refine zE ?_)
 | false =>
  rw [c] at CB;have hbl:s.su.length≤20∧l.length≤12∧h.bag.length≤60∧h.me.length≤10:=by
   unfold NJ at c;simp at c;omega
  have hl1:∀f∈l,f.ks.length≤1000000:=fun f hf=>by
   unfold NJ at c;simp at c;have:=c.2 f hf;omega
  clear c;obtain ⟨hsu,hll,hb1,hb2⟩:=hbl;have hS0:FM s l h:=⟨hl1,by omega,by omega,by omega,by omega⟩;have P1:=K9 last hS0;have P2:=K4 last hS0;obtain ⟨p1,p2⟩:=SA (s:=s) (l:=l) (h:=h) last (by omega) (by omega);have P3:=J7 _ p1 p2;obtain ⟨RR,hRR⟩:∃RR,Mz s l h last=RR:=⟨_,rfl⟩;rw [hRR] at P1 P2 P3;clear hRR hS0 p2;obtain ⟨hbag,hmel⟩:=h;dsimp only at hb1 hb2;refine zb Tryz.ntmps4 ?_;let tb:=dO;let lv:=Xa;(repeat' first | refine zS CB ?_ | refine zQ ?_ | (refine zN ?_;intro K hC hK) | (refine zM ?_;try clear hK hC K) | (refine zC ?_ ?_<;>intro hb) | (refine zK ?_;intro Jo JU JC AH AJ AG))
  (refine zX (tg []) (Tu nums hn) ?_;clear AH AJ AG Jo JU JC);intro xr hxr;have V:=hxr.made.ok;have hxl:=hxr.xl;have hpl:=(A7 V).2.2.2;have hfull:=hxr.full;have hfo:=hxr.fo;have hf1:=hxr.f1;have hf3:=hxr.f3;obtain ⟨y,t,fs,ms,X,g0⟩:=xr;dsimp only at V hxl hpl hfull hfo hf1 hf3 ⊢;have ho:G5 t ⟨X,ms⟩:=DP (by unfold Am at hfull;simp at hfull;exact hfull.1);have hrg:=ho.rg;have hmm:=ho.mm;have hlo:=ho.lo;have hme:=(AU V).me;have hco:=(AU V).co;have hsu3:=(AU V).su3;have hfs1:∀f∈fs,f.ks.length≤1000000:=fun f hf=>by have:=(hfo f hf).2;omega
  dsimp only at hrg hmm hlo;clear hxr hfull hfo ho;have hTX:List.take X.length X=X:=List.take_length;have CC:=Ej ⟨X,ms⟩ (by dsimp only;omega) (by dsimp only;omega);have CO:=QY fs (by omega) (by omega) hfs1;dsimp only at CC;have hTM:List.take ms.length ms=ms:=List.take_length;(repeat' first | refine zS P1 ?_ | refine zS P2 ?_ | refine zS P3 ?_ | refine zQ ?_ | (refine zN ?_;intro K hC hK) | (refine zM ?_;try clear hK hC K) | (refine zC ?_ ?_<;>intro hb) | (refine zK ?_;intro Jo JU JC AH AJ AG))
  (have fa:=(And.intro hTX hTM);(repeat' first | refine zO CC ?_ | refine zS CO ?_ | refine zQ ?_ | (refine zN ?_;intro K hC hK) | (refine zM ?_;try clear hK hC K) | (refine zC ?_ ?_<;>intro hb) | (refine zK ?_;intro Jo JU JC AH AJ AG))<;>(try clear fa))
  clear P1 P2 P3 p1;refine At (α:=Int) (fun z=>[(12, .ref 0 0 0 0),(13,Bh false fs),(14, .ref 1 0 0 0),(15, .ref 2 0 0 0),(16,Bh true fs),(17,I z)]) (fun _=>[(0, .arr 0 9 [AO t]),(1, .arr 0 2 [.agg [AN true X,AX false ms]]),(2, .arr 0 2 [.agg [AN true X,AX true ms]])])
   (fun z=>((X.length:Int)+1-z).toNat) (fun z=> -1≤z∧z≤(X.length:Int)+1) [(224,0),(240,1),(1408,2)] [(0,0),(1,1),(2,2)] 1 [12,13,14,15,16,17] 900 zf zf (-1) ⟨by omega,by omega⟩ (by (have fa:=(And.intro hTX hTM);exact C8)) ?_
  rintro z ⟨z1,z2⟩ J hcJ hJ;by_cases hz:z≤(X.length:Int)
  ·have hS:FM t fs ⟨X,ms⟩:=⟨hfs1,by omega,by omega,by dsimp only;omega,by dsimp only;omega⟩;have P1:=K9 z hS;have P2:=K4 z hS;obtain ⟨p1,p2⟩:=SA (s:=t) (l:=fs) (h:=⟨X,ms⟩) z (by omega) (by dsimp only;omega);have P3:=J7 _ p1 p2;obtain ⟨RR,hRR⟩:∃RR,Mz t fs ⟨X,ms⟩ z=RR:=⟨_,rfl⟩;rw [hRR] at P1 P2 P3;clear hRR hS p1 p2;(repeat' first | refine zS P1 ?_ | refine zS P2 ?_ | refine zS P3 ?_ | refine zQ ?_ | (refine zN ?_;intro K hC hK) | (refine zM ?_;try clear hK hC K) | (refine zC ?_ ?_<;>intro hb) | (refine zK ?_;intro Jo JU JC AH AJ AG))
   exact hJ _ (z+1) (by omega) ⟨by omega,by omega⟩ (by exact C8)
  ·have CS:=Fp ⟨X,ms⟩ (by dsimp only;omega) (by dsimp only;omega);have CF:=PJ fs (by omega) hfs1;(repeat' first | refine zS CS ?_ | refine zS CF ?_ | refine zS Gy ?_ | refine zQ ?_ | (refine zN ?_;intro K hC hK) | (refine zM ?_;try clear hK hC K) | (refine zC ?_ ?_<;>intro hb) | (refine zK ?_;intro Jo JU JC AH AJ AG))
   refine Aa [] ?_ ?_<;>(first | exact AK | refine zE ?_)
theorem NY (v0:Value) (s:AL) (v1:Value) (l:List Fm) (v2:Value) (h:Hd) (last:Int) (v4:Value) (nums:List Int) (W:World) (w0:F5 W v0 s) (_x0:QN s) (w1:OY W v1 l) (w2:SK W v2 h) (_w3:(Lit.int .i64 last).wf=true) (w4:BO W v4 nums) (_x4:∀z∈nums,(Lit.int .i64 z).wf=true) :
  Calls Tryz.prog 4 #[v0,v1,v2, .int .i64 last,v4] W (OF W (.bool true)):=by
 refine T0 (Rr s l h last nums (NA w4)) ⟨rfl,fun i x y hx hy=> ?_⟩;match i,hx,hy with
 | 0,hx,hy=>simp at hx hy;subst hx hy;exact No w0
 | 1,hx,hy=>simp at hx hy;subst hx hy;exact Ns w1
 | 2,hx,hy=>simp at hx hy;subst hx hy;exact OO w2
 | 3,hx,hy=>simp at hx hy;subst hx hy;exact .v _
 | 4,hx,hy=>simp at hx hy;subst hx hy;exact ER w4
 | n+5,hx,hy=>simp at hx
end Go.Proofs.YthblfhgofopcaaaGreat
