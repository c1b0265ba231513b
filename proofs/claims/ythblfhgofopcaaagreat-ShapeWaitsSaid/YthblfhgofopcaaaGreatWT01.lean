/-
  Parts of the proof: FrameQ, Frame1Q, FrmSQ, FrmHQ, Ext, RdP, MoreL, InK, WaitL, WWaitS.
-/
import Derived.Test.YthblfhgofopcaaaGreatRows
import Derived.Test.YthblfhgofopcaaaGreatSH01
import Derived.ProofKit
import Derived.OpenShut
import Derived.ShutString
import Derived.ChangeOld
import Derived.Below
import Derived.Lib.SmallJoins
import Derived.Deep.Slices
import Derived.Test.YthblfhgofopcaaaGreatSH15
import Derived.Test.YthblfhgofopcaaaGreatSH17
import Derived.Test.YthblfhgofopcaaaGreatSH09
import Derived.Deep.Fields
import Derived.ChangeSame
import Derived.Test.YthblfhgofopcaaaGreatSH08
import Derived.Test.YthblfhgofopcaaaGreatSH13
import Derived.Test.YthblfhgofopcaaaGreatSH14
import Derived.Test.YthblfhgofopcaaaGreatSH46
import Derived.Test.YthblfhgofopcaaaGreatSH41
import Derived.Test.YthblfhgofopcaaaGreatSH18
set_option linter.all false
namespace Go.Proofs.YthblfhgofopcaaaGreat
open Go.RowKit Go.ChangeShapes Go.WideShapes Go.ChangeAt
theorem Rb:ownKnob Tryz.prog.godebug=none:=by kernel_rfl
theorem FH:laidOutB Tryz.prog=true:=by kernel_rfl
theorem WM:Tryz.prog.cellsOf 3=1:=by kernel_rfl
theorem OA {w:World} {x:Addr} {l c:Nat} {zs:List Int} (hl:l≤c) (hm:c≤maxLen) (hz:zs.length=c) (hcell:∀i,i<zs.length→w.cell? (x.add i)=some (.int .i64 (zs.getD i 0))) :
  BO w (.slice (some x) l c) (zs.take l):=by
 refine ⟨some x,c,by rw [List.length_take,Nat.min_eq_left (by omega)],by rw [List.length_take];omega,hm,fun i u hu=> ?_⟩;have hi:=(List.getElem?_eq_some_iff.1 hu).1;simp only [Ke,List.length_map,List.length_take] at hi;have hc:=hcell i (by omega);refine ⟨x,rfl,?_,?_⟩
 ·have:=World.block_lt_of_cell? w _ hc;rwa [Iq] at this
 ·rw [hc,←hu];have h2:i<zs.length:=by omega
  simp [List.getD,h2,show i<l by omega]
section
variable {H:Type} {enc:TypeId×Value→H} {W:World} {spare:Nat→Bool} {held:Bool}
theorem DE {t:TypeId} {fuel:Nat} {v:Value} {x:DataW H×List MemPlace} (ht:Tryz.prog.underlying t=some (.slice 3)) (h:DataW.trod enc Tryz.prog W 0 spare held fuel t [v]=some x) (hs:spare=fun _=>true) :
  ∃zs,BO W v zs∧∀z∈zs,(Lit.int .i64 z).wf=true:=by
 subst hs;rcases open_ints ht Tryz.underlying3 WM h with ⟨hcs,_⟩ | ⟨a,l,c,zs,hcs,_,hl,hm,hz,_,hcell,hwz⟩
 ·simp at hcs;subst hcs;exact ⟨[],BO.nil,by simp⟩
 ·simp at hcs;subst hcs;exact ⟨zs.take l,OA hl hm (by simpa using hz) hcell,fun z hz=>hwz z (List.mem_of_mem_take hz)⟩
end
end Go.Proofs.YthblfhgofopcaaaGreat

namespace Go.Proofs.YthblfhgofopcaaaGreat
open Go.Joins Go.ChangeShapes Go.WideShapes Go.RowKit Go.Deep
set_option maxRecDepth 100000
def cI (W:World):Cx:=⟨W,fun _=>0,fun _=>false,fun _=>False,fun _=>True,W.heap.size⟩
theorem jU (W:World):BH (cI W) (lk [] .nil):=⟨(fun r g sz es h=>by cases h),(fun r g sz es h=>by cases h),(fun r r' g g' sz sz' es es' h=>by cases h)⟩
theorem WA (W:World) {b:Nat} (hb:b<W.heap.size):Dx (cI W) (lk [] .nil) false b:=⟨hb,(by rintro ⟨r,g,sz,es,h,_⟩;cases h), .inr (.inr ⟨rfl,trivial⟩)⟩
theorem Io {W:World} {a:Addr} {u:Value} (h:W.cell? a=some u):a=⟨a.block,a.off,none⟩:=by
 obtain ⟨b,o,sp⟩:=a;cases sp with
 | none=>rfl
 | some k =>
  unfold World.cell? at h;split at h<;>simp at h
theorem ER {W:World} {v:Value} {zs:List Int} (h:BO W v zs):AS (cI W) (lk [] .nil) (AN false zs) v:=by
 obtain ⟨A,c,rfl,h1,h2,h3⟩:=h;cases zs with
 | nil=>exact .slE false 1 A c h2
 | cons z l =>
  obtain ⟨ad,rfl,hb,hc⟩:=h3 0 (.int .i64 z) rfl;have e0:ad.add 0=ad:=rfl;rw [e0] at hc;obtain ⟨b,o,rfl⟩:∃b o,ad=⟨b,o,none⟩:=⟨_,_,Io hc⟩;have hl:(z::l).length=((z::l).map I).length:=by simp
  rw [hl];have dest:∀(i:Nat) (e:AV),((z::l).map I)[i]? =some e→∃y,(z::l)[i]? =some y∧e=I y:=fun i e he=>by
   rw [List.getElem?_map] at he;cases hz:(z::l)[i]? with
   | none=>rw [hz] at he;cases he
   | some y =>
    rw [hz] at he;injection he with he
    exact ⟨y,rfl,he.symm⟩
  refine .sl false 1 ((z::l).map I) b o c (fun i _=> .int .i64 ((z::l).getD i 0)) (by rw [List.length_map];exact h1) h2 (WA W hb) (fun i e he=> ?_) (fun i e j x he hx=> ?_) (fun i e j x he hx=> ?_)
  ·obtain ⟨y,hz,rfl⟩:=dest i e he;rfl
  ·obtain ⟨y,hz,rfl⟩:=dest i e he;obtain ⟨ad',e',hb',hc'⟩:=h3 i (.int .i64 y) (by rw [Ke,List.getElem?_map,hz];rfl);injection e' with e'
   subst e';have hj:j=0:=by
    cases j with
    | zero=>rfl
    | succ j=>simp [AV.cs,I] at hx
   subst hj;rw [Addr.add_lit] at hc';show W.cell? ⟨b,o+i*1+0,none⟩=_;rw [List.getD_eq_getElem?_getD,hz];simpa using hc'
  ·obtain ⟨y,hz,rfl⟩:=dest i e he;have hj:j=0:=by
    cases j with
    | zero=>rfl
    | succ j=>simp [AV.cs,I] at hx
   subst hj;simp [AV.cs,I] at hx;subst hx;rw [List.getD_eq_getElem?_getD,hz];exact .v _
theorem T0 {f:Nat} {ys:List AV} (h:AM Tryz.prog f ys (B true)) {W:World} {vals:Array Value} (hr:QX (cI W) (lk [] .nil) ys vals):Calls Tryz.prog f vals W (OF W (.bool true)):=by
 refine (h.2 (cI W) vals rfl (jU W) hr).mono ?_;rintro e w' ⟨v,x,hl,c',rfl,rfl,⟨rfl,rfl⟩,k,_,rv⟩;have:=As rv;subst this;refine ⟨rfl,?_⟩;exact ⟨k.os,k.tape,k.output,k.size,fun b hb=>k.blk b hb (by rintro ⟨r,g,sz,es,h,_⟩;cases h)⟩
end Go.Proofs.YthblfhgofopcaaaGreat

namespace Go.Proofs.YthblfhgofopcaaaGreat
open Go.Joins Go.ChangeShapes Go.WideShapes Go.RowKit Go.Deep Go.ChangeAt
theorem NA {W:World} {v:Value} {zs:List Int} (h:BO W v zs):zs.length≤9223372036854775807:=by
 obtain ⟨_,_,_,h1,h2,_⟩:=h;unfold maxLen at h2;omega
end Go.Proofs.YthblfhgofopcaaaGreat

namespace Go.Proofs.YthblfhgofopcaaaGreat
open Go.RowKit
set_option maxRecDepth 100000
def wV:List (Nat×List Nat):=[(0,[0]),(1,[3,4,5,6]),(2,[4,5,6,7]),(3,[4,5,6,7,8]),(4,[4,5,6,7,8,9]),(5,[4,5,6,7,8,9,31]),(6,[4,5,6,7,8,9]),(7,[4,5,6,7,8,9,10]),(8,[4,5,6,7,8,9,10]),(9,[4,5,6,7,8,9,10,11]),(10,[4,5,6,7,8,9,10,57]),(11,[2]),(12,[4,5,6,7,8,9,72]),(13,[2]),(14,[8,12]),(15,[8,12,76]),(16,[8,12]),(17,[8,12,88]),(18,[2]),(19,[2])]
@[go_sem] theorem wY:Tryz.f7.results.toList=[.tmp 2]:=rfl
@[go_sem] theorem wX:Tryz.f42.results.toList=[.tmp 4]:=rfl
def wW:List (Nat×List Nat×List Nat):=[(17,[0,1,2,3,4,5,6,7,8,9],[0,0,3,7,0,0,32,112,240,511])]
set_option maxHeartbeats 2000000
def Ug (s:AL) (l:List Fm) (h:Hd):Bool:=Dn s h (Hf s h) l
def Hm (s:AL) (l:List Fm) (h:Hd):List Int:=DC s h l fun k=>Dn s ⟨Aq h.bag k,h.me⟩ (Hf s ⟨Aq h.bag k,h.me⟩) l
structure FM (s:AL) (l:List Fm) (h:Hd):Prop where
 f:∀f∈l,f.ks.length≤1000000
 l:l.length≤1000000
 s:s.su.length≤1000000
 m:h.me.length≤1000000
 b:h.bag.length≤1000000
theorem HW {s:AL} {l:List Fm} {h:Hd} (hf:Ch s l h=true):∀f∈l,Az s f=0:=by
 unfold Ch at hf;simp only [Bool.and_eq_true,decide_eq_true_eq] at hf;exact (Ht hf.1).2.2
theorem Fw {s:AL} {l:List Fm} {h:Hd} (S:FM s l h):AM Tryz.prog 33 [AO s,Bh false l,Cb false h] (B (Ug s l h)) :=
 OD s h (Hf s h) l S.f S.l S.s S.m S.b fun hf hu f hm=>LU s f h (HW hf f hm) hu
theorem GK {s:AL} {l:List Fm} {h:Hd} (S:FM s l h):AM Tryz.prog 36 [AO s,Bh false l,Cb false h] (AN true (Hm s l h)) :=
 M2 s h l _ S.f S.l S.s S.m S.b fun _ k _=>Fw (s:=s) (l:=l) (h:=⟨Aq h.bag k,h.me⟩) ⟨S.f,S.l,S.s,S.m,by dsimp only;rw [Cy];exact S.b⟩
theorem wK {s:AL}:∀{l:List Fm},(∀f∈l,Az s f=0)→El s l=0
 | [],_=>rfl
 | f::l,h=>by
  have h1:=h f (by simp);rw [El,if_neg (by omega),wK fun g hg=>h g (by simp [hg])]
theorem wN {s:AL} {l:List Fm} (hv:AP s=0) (h0:0<l.length) (h8:l.length≤8) (h:∀f∈l,Az s f=0):A6 s l=0:=by
 unfold A6;rw [if_neg (by omega),if_neg (by omega),if_neg (by omega),wK h]
theorem wU {l:List Int} {n:Int}:(l.any fun z=>z==n)=decide (n∈l):=by
 rw [Bool.eq_iff_iff,List.any_eq_true,decide_eq_true_eq];exact ⟨fun ⟨x,h,e⟩=>by simp at e;subst e;exact h,fun h=>⟨n,h,by simp⟩⟩
theorem wQ (l:List Int) (n:Int) (h:l.length≤1000000):AM Tryz.prog 42 [AN false l,I n] (B (l.any fun z=>z==n)):=by
 refine zb Tryz.ntmps42 ?_;let tb:=sT;let lv:=qP;(repeat' first | refine zQ ?_ | (refine zN ?_;intro K hC hK) | (refine zM ?_;try clear hK hC K) | (refine zC ?_ ?_<;>intro hb) | (refine zK ?_;intro Jo JU JC AH AJ AG))
 refine Ab l.length (fun k σ=>(l.any fun z=>z==n)=((l.drop k).any fun z=>z==n)∧σ=⟨900,[(0,AN false l),(1,I n),(5,I k)],[]⟩) [] [] 0 [0,1,5] 900 zf zf ⟨rfl,by exact zV⟩ ?_;rintro k σ' hk ⟨hR,rfl⟩ J hcJ hJ;by_cases h:k<l.length
 ·have hd:=Wb (p:=fun z=>z==n) h;obtain ⟨z,hz⟩:∃z,l[k]=z:=⟨_,rfl⟩;rw [hz] at hd;by_cases f:z=n
  ·subst f;rw [hR,hd];(have fa:=hz;(repeat' first | refine zQ ?_ | (refine zN ?_;intro K hC hK) | (refine zM ?_;try clear hK hC K) | (refine zC ?_ ?_<;>intro hb) | (refine zK ?_;intro Jo JU JC AH AJ AG))<;>(try clear fa))
   refine Aa [] ?_ ?_<;>(first | exact AK | refine zE ?_);simp
  ·(have fa:=hz;(repeat' first | refine zQ ?_ | (refine zN ?_;intro K hC hK) | (refine zM ?_;try clear hK hC K) | (refine zC ?_ ?_<;>intro hb) | (refine zK ?_;intro Jo JU JC AH AJ AG))<;>(try clear fa))
   exact hJ _ h ⟨by rw [hR,hd];simp [f],by exact zV⟩
 ·obtain rfl:k=l.length:=by omega
  (repeat' first | refine zQ ?_ | (refine zN ?_;intro K hC hK) | (refine zM ?_;try clear hK hC K) | (refine zC ?_ ?_<;>intro hb) | (refine zK ?_;intro Jo JU JC AH AJ AG))
  refine Aa [] ?_ ?_<;>(first | exact AK | refine zE ?_);rw [hR,List.drop_length];rfl
end Go.Proofs.YthblfhgofopcaaaGreat

namespace Go.Proofs.YthblfhgofopcaaaGreat
theorem wS {s:AL} {X:List Int} {ms:List Gp} (hU:Am s ⟨X,ms⟩=true) {i:Nat} (hi:i<X.length) (h1:1≤X.getD i 0):Ag s ⟨X.set i (X.getD i 0-1),ms⟩=0∧Am s ⟨X.set i (X.getD i 0-1),ms⟩=false:=by
 obtain ⟨ho,hsum⟩:=Pt hU;have b:=ho.bag;obtain ⟨R,hR⟩:∃R,X.set i (X.getD i 0-1)=R:=⟨_,rfl⟩;have hl:R.length=X.length:=by rw [←hR];simp
 have hg:∀j,R.getD j 0=X.getD j 0-if i=j then 1 else 0:=fun j=>by
  rw [←hR];by_cases hij:i=j
  ·subst hij;simp [hi]
  ·rw [List.getD_eq_getElem?_getD,List.getElem?_set_ne hij,List.getD_eq_getElem?_getD];simp [hij]
 have hs:R.sum=X.sum-1:=by
  rw [←hR,Pb _ _ _ hi];omega
 rw [hR];have hin:∀g∈ms,D8 X.length (AI g.wh g.kd):=fun g hg=>b.inb hg
 have hT:=FD ms X hin;have hT1:=FD ms R (fun g hg=>by rw [hl];exact hin g hg);have V:=(AU ho.va).co;have hle:∀j,(Bi X ms).getD j 0≤s.co:=fun j=>Lu (P:=fun z=>z≤s.co) (fun z hz=>ho.tot z hz) (by omega) j
 have hrg:∀j,0≤X.getD j 0∧X.getD j 0≤s.co:=fun j=>Lu (P:=fun z=>0≤z∧z≤s.co) (fun z hz=>ho.rg z hz) (by omega) j
 have hcnt:Be s R=0:=by
  unfold Be;rw [if_neg (by rw [hl];have:=ho.ln;dsimp only at this;omega),if_neg];intro hq;obtain ⟨z,hz,hf⟩:=List.any_eq_true.1 hq;obtain ⟨j,hj,rfl⟩:=List.mem_iff_getElem.1 hz;have e1:R.getD j 0=R[j]:=by simp [hj]
  rw [←e1,hg] at hf;have h3:=hrg j;unfold F8 at hf;simp only [Bool.or_eq_true,decide_eq_true_eq] at hf;by_cases hij:i=j
  ·rw [if_pos hij] at hf;subst hij;omega
  ·rw [if_neg hij] at hf;omega
 have hany:(Bi R ms).any (fun z=>decide (s.co<z))=false:=D0 fun j hj=>by
  have e1:(Bi R ms).getD j 0=(Bi R ms)[j]:=by simp [hj]
  rw [←e1,hT1,hg];have h2:=hle j;rw [hT] at h2;simp only [decide_eq_false_iff_not];split<;>omega
 have hm:=ho.mm;have hml:=ho.ml;dsimp only at hm hml hsum;have e:Ag s ⟨R,ms⟩=0:=by
  unfold Ag;dsimp only;rw [if_neg (by simp [ho.va]),if_neg (by simp [hcnt]),if_neg (by simp [hml]),hany,if_neg (by simp),if_neg (by omega),if_neg (by omega)]
 refine ⟨e,?_⟩;unfold Am;rw [e];dsimp only;rw [decide_eq_false (p:=R.sum=3*(s.me-ms.length)+2) (by omega)];simp
theorem wP {W:Nat→Bool} {k:Nat}:∀{n:Nat},k<n→((k:Int)∈Gv W n↔W k=true)
 | 0,h=>by omega
 | n+1,h=>by
  rw [Gv,List.mem_append];by_cases hk:k<n
  ·rw [wP hk];constructor
   ·rintro (h | h)
    ·exact h
    ·split at h
     ·simp at h;omega
     ·cases h
   ·exact fun h=> .inl h
  ·obtain rfl:k=n:=by omega
   constructor
   ·rintro (h | h)
    ·exact absurd (wt_lt _ h) (by omega)
    ·split at h
     ·assumption
     ·cases h
   ·intro h;rw [if_pos h];simp
where wt_lt:∀n,(k:Int)∈Gv W n→k<n
 | 0,h=>by cases h
 | n+1,h=>by
  rw [Gv,List.mem_append] at h
  rcases h with h | h
  ·have:=wt_lt n h;omega
  ·split at h
   ·simp at h;omega
   ·cases h
theorem wT {W:Nat→Bool}:∀n,(∀z∈Gv W n,z<(n:Int))∧GR (Gv W n)
 | 0=>⟨fun z hz=>(by cases hz),List.Pairwise.nil⟩
 | n+1=>by
  obtain ⟨h1,h2⟩:=wT (W:=W) n;rw [Gv];refine ⟨fun z hz=> ?_,?_⟩
  ·rcases List.mem_append.1 hz with h | h
   ·have:=h1 z h;omega
   ·split at h
    ·simp at h;omega
    ·cases h
  ·unfold GR;rw [List.pairwise_append];refine ⟨h2,by split<;>simp,fun a ha b hb=> ?_⟩;have:=h1 a ha;split at hb
   ·simp at hb;omega
   ·cases hb
theorem wO {s:AL} {l:List Fm} {R:List Int} {ms:List Gp} (hf:A6 s l=0) (hh:Ag s ⟨R,ms⟩=0) (hn:Am s ⟨R,ms⟩=false):Hm s l ⟨R,ms⟩=Gv (fun k=>Ug s l ⟨Aq R k,ms⟩) R.length:=by
 unfold Hm DC;rw [if_pos ⟨by unfold Ch;rw [hf,hh];rfl,hn⟩];rfl
theorem wR {s:AL} {l:List Fm} {h:Hd} (hw:Ug s l h=true):Ag s h=0:=by
 unfold Ug Dn Ch at hw;simp only [Bool.and_eq_true,decide_eq_true_eq] at hw;exact hw.1.1.2
end Go.Proofs.YthblfhgofopcaaaGreat

namespace Go.Proofs.YthblfhgofopcaaaGreat
open Go.RowKit
set_option maxRecDepth 100000
set_option maxHeartbeats 2000000
set_option maxHeartbeats 8000000 in
theorem wM (nums:List Int) (hn:nums.length≤9223372036854775807):AM Tryz.prog 7 [AN false nums] (B true):=by
 refine zb Tryz.ntmps7 ?_;let tb:=wW;let lv:=wV;(repeat' first | refine zQ ?_ | (refine zN ?_;intro K hC hK) | (refine zM ?_;try clear hK hC K) | (refine zC ?_ ?_<;>intro hb) | (refine zK ?_;intro Jo JU JC AH AJ AG))
 (refine zX (tg []) (Tu nums hn) ?_;clear AH AJ AG Jo JU JC);intro xr hxr;have V:=hxr.made.ok;have hxl:=hxr.xl;have hpl:=(A7 V).2.2.2;have hfull:=hxr.full;have hfo:=hxr.fo;have hf1:=hxr.f1;have hf3:=hxr.f3;obtain ⟨y,t,fs,ms,X,g0⟩:=xr;dsimp only at V hxl hpl hfull hfo hf1 hf3 ⊢;have ho:G5 t ⟨X,ms⟩:=DP (by unfold Am at hfull;simp at hfull;exact hfull.1);have hrg:=ho.rg;have hmm:=ho.mm;have hlo:=ho.lo;have hme:=(AU V).me;have hco:=(AU V).co;have hsu3:=(AU V).su3;have hfs1:∀f∈fs,f.ks.length≤1000000:=fun f hf=>by have:=(hfo f hf).2;omega
 have hff:A6 t fs=0:=wN V (by omega) (by omega) fun f hf=>(hfo f hf).1
 dsimp only at hrg hmm hlo;clear hxr hfo ho;have hTX:List.take X.length X=X:=List.take_length;have CWo:=Oh y ⟨X,ms⟩ (by dsimp only;omega) (by dsimp only;omega) (fun z hz=>by have:=hrg z hz;omega) (by dsimp only;omega);(repeat' first | refine zQ ?_ | (refine zN ?_;intro K hC hK) | (refine zM ?_;try clear hK hC K) | (refine zC ?_ ?_<;>intro hb) | (refine zK ?_;intro Jo JU JC AH AJ AG))
 (have fa:=(And.intro @Af.eq_1 hTX);refine jY (tg [32]) (CWo) ?_;clear AH AJ AG Jo JU JC;(try clear fa));intro xr hxr;obtain ⟨q1,q2⟩:=hxr;obtain ⟨i,y3⟩:=xr;dsimp only at q1 q2 ⊢;obtain ⟨r1,r2⟩:=wS hfull q1 q2;have hRl:(X.set i (X.getD i 0-1)).length=X.length:=List.length_set ..;have hRb:∀z∈X.set i (X.getD i 0-1),0≤z∧z≤t.co:=fun z hz=>(DP r1).rg z hz
 obtain ⟨R,hR⟩:∃R,X.set i (X.getD i 0-1)=R:=⟨_,rfl⟩;rw [hR] at hRl hRb r1 r2 ⊢;clear hR q1 q2;have hTR:List.take X.length R=R:=List.take_of_length_le (by omega);have hTR2:X.length≤R.length:=by omega
 have CW:=GK (s:=t) (l:=fs) (h:=⟨R,ms⟩) ⟨hfs1,by omega,by omega,by dsimp only;omega,by dsimp only;omega⟩;rw [wO hff r1 r2,hRl] at CW;have hwm:∀k:Nat,k<X.length→_:=fun k hk=>wP (W:=fun k=>Ug t fs ⟨Aq R k,ms⟩) hk
 have hwu:=wT (W:=fun k=>Ug t fs ⟨Aq R k,ms⟩) X.length;have hwl:=KA (fun k=>Ug t fs ⟨Aq R k,ms⟩) X.length;obtain ⟨qWW,hWW⟩:∃qWW,Gv (fun k=>Ug t fs ⟨Aq R k,ms⟩) X.length=qWW:=⟨_,rfl⟩;rw [hWW] at CW hwm hwu hwl;clear hWW;(have fa:=(And.intro hTX (And.intro hTR hTR2));(repeat' first | refine zS CW ?_ | refine zQ ?_ | (refine zN ?_;intro K hC hK) | (refine zM ?_;try clear hK hC K) | (refine zC ?_ ?_<;>intro hb) | (refine zK ?_;intro Jo JU JC AH AJ AG))<;>(try clear fa))
 refine Ab X.length (fun k σ=>σ=⟨900,[(4, .ref 0 0 0 0),(5,Bh false fs),(6, .ref 1 0 0 0),(7, .ref 2 0 0 0),(8,AN true qWW),(9,I k)],[(0, .arr 0 9 [AO t]),(1, .arr 0 2 [.agg [AN true X,AX false ms]]),(2, .arr 0 2 [.agg [AN true R,AX true ms]])]⟩) [(128,0),(144,1),(272,2)] [(0,0),(1,1),(2,2)] 1 [4,5,6,7,8,9] 900 zf zf (by (have fa:=(And.intro hTX (And.intro hTR hTR2));exact zV)) ?_;rintro k σ' hk rfl J hcJ hJ;by_cases hlt:k<X.length
 ·have hm:=hwm k hlt;have CC:=Ej ⟨R,ms⟩ (by dsimp only;omega) (by dsimp only;omega);dsimp only at CC;have hil:=Cy R (k:Int);obtain ⟨z,hz⟩:∃z,R[k]'(by omega)=z:=⟨_,rfl⟩;have hzb:=hRb z (by rw [←hz];exact List.getElem_mem _);have hinc:(R.map I).set k (I (z+1))=(Aq R k).map I:=by unfold Aq;rw [List.map_set];simp [show k<R.length by omega,hz]
  obtain ⟨Y,hY⟩:∃Y,Aq R k=Y:=⟨_,rfl⟩;rw [hY] at hm hil hinc;have S2:FM t fs ⟨Y,ms⟩:=⟨hfs1,by omega,by omega,by dsimp only;omega,by dsimp only;omega⟩;have qS3:FM t fs ⟨X,ms⟩:=⟨hfs1,by omega,by omega,by dsimp only;omega,by dsimp only;omega⟩;have CK:=Dk t ⟨Y,ms⟩ (by dsimp only;omega) (by dsimp only;omega);have C1:=Fw S2;have C2:=Fw qS3;have CI:=wQ qWW k (by omega);rw [wU] at CI;have CS:=Sv ⟨Y,ms⟩ ⟨X,ms⟩ (by dsimp only;omega) (by dsimp only;omega);dsimp only at CS;rw [decide_eq_true (p:=ms=ms) rfl,Bool.and_true] at CS;have hTY:List.take R.length Y=Y:=List.take_of_length_le (by omega);have hTY2:R.length≤Y.length:=by omega
  have hTM:List.take ms.length ms=ms:=List.take_length;have hwe:=fun hq=>wR (s:=t) (l:=fs) (h:=⟨Y,ms⟩) hq
  obtain ⟨q,hq⟩:∃q,Ug t fs ⟨Y,ms⟩=q:=⟨_,rfl⟩;rw [hq] at hm C1 hwe;cases q with
  | true =>
   rw [decide_eq_true (hm.2 rfl)] at CI;rw [hwe rfl] at CK;obtain ⟨q2,hq2⟩:∃q2,Ug t fs ⟨X,ms⟩=q2:=⟨_,rfl⟩;rw [hq2] at C2;obtain ⟨b,hb⟩:∃b,decide (Y=X)=b:=⟨_,rfl⟩;rw [hb] at CS;clear hwe hm hq hq2 hb hY;(have fa:=(And.intro hTR (And.intro hTM (And.intro hTY (And.intro hTY2 (And.intro hz (And.intro hinc (And.intro @Ay @bne_self_eq_false.{0})))))));(repeat' first | refine zO CC ?_ | refine zS CK ?_ | refine zS C1 ?_ | refine zS C2 ?_ | refine zS CI ?_ | refine zS CS ?_ | refine zQ ?_ | (refine zN ?_;intro K hC hK) | (refine zM ?_;try clear hK hC K) | (refine zC ?_ ?_<;>intro hb) | (refine zK ?_;intro Jo JU JC AH AJ AG))<;>(try clear fa))
   all_goals exact hJ _ hlt (by (have fa:=(And.intro hTX hTR);exact zV))
  | false =>
   rw [decide_eq_false (fun h=>by cases hm.1 h)] at CI;obtain ⟨e,he⟩:∃e,Ag t ⟨Y,ms⟩=e:=⟨_,rfl⟩;rw [he] at CK;by_cases hXY:Y=X
   ·rw [decide_eq_true hXY] at CS;rw [show Ug t fs ⟨X,ms⟩=false by rw [←hXY];exact hq] at C2;clear hwe hm hY hXY he hq;(have fa:=(And.intro hTR (And.intro hTM (And.intro hTY (And.intro hTY2 (And.intro hz (And.intro hinc (And.intro @Ay @bne_self_eq_false.{0})))))));(repeat' first | refine zO CC ?_ | refine zS CK ?_ | refine zS C1 ?_ | refine zS C2 ?_ | refine zS CI ?_ | refine zS CS ?_ | refine zQ ?_ | (refine zN ?_;intro K hC hK) | (refine zM ?_;try clear hK hC K) | (refine zC ?_ ?_<;>intro hb) | (refine zK ?_;intro Jo JU JC AH AJ AG))<;>(try clear fa))
    all_goals exact hJ _ hlt (by (have fa:=(And.intro hTX hTR);exact zV))
   ·rw [decide_eq_false hXY] at CS;clear hwe hm hY he hq;(have fa:=(And.intro hTR (And.intro hTM (And.intro hTY (And.intro hTY2 (And.intro hz (And.intro hinc (And.intro @Ay @bne_self_eq_false.{0})))))));(repeat' first | refine zO CC ?_ | refine zS CK ?_ | refine zS C1 ?_ | refine zS C2 ?_ | refine zS CI ?_ | refine zS CS ?_ | refine zQ ?_ | (refine zN ?_;intro K hC hK) | (refine zM ?_;try clear hK hC K) | (refine zC ?_ ?_<;>intro hb) | (refine zK ?_;intro Jo JU JC AH AJ AG))<;>(try clear fa))
    all_goals exact hJ _ hlt (by (have fa:=(And.intro hTX hTR);exact zV))
 ·obtain rfl:k=X.length:=by omega
  (repeat' first | refine zQ ?_ | (refine zN ?_;intro K hC hK) | (refine zM ?_;try clear hK hC K) | (refine zC ?_ ?_<;>intro hb) | (refine zK ?_;intro Jo JU JC AH AJ AG))
  refine At (α:=Nat) (fun i=>[(8,AN true qWW),(12,I i)]) (fun _=>[]) (fun i=>qWW.length-i) (fun i=>1≤i) [] [] 0 [8,12] 1900 zf zf 1 (by omega) (by exact C8) ?_;rintro i hi J2 hcJ2 hJ2;by_cases hl:i<qWW.length
  ·obtain ⟨a,ha⟩:∃a,qWW[i]=a:=⟨_,rfl⟩;obtain ⟨b,hb⟩:∃b,qWW[i-1]'(by omega)=b:=⟨_,rfl⟩;have hab:b<a:=by
    rw [←ha,←hb];exact List.pairwise_iff_getElem.1 hwu.2 (i-1) i (by omega) hl (by omega)
   (have fa:=(And.intro ha hb);(repeat' first | refine zQ ?_ | (refine zN ?_;intro K hC hK) | (refine zM ?_;try clear hK hC K) | (refine zC ?_ ?_<;>intro hb) | (refine zK ?_;intro Jo JU JC AH AJ AG))<;>(try clear fa))
   exact hJ2 _ (i+1) (by omega) (by omega) (by exact C8)
  ·(repeat' first | refine zS Gy ?_ | refine zQ ?_ | (refine zN ?_;intro K hC hK) | (refine zM ?_;try clear hK hC K) | (refine zC ?_ ?_<;>intro hb) | (refine zK ?_;intro Jo JU JC AH AJ AG))
   refine Aa [] ?_ ?_<;>(first | exact AK | refine zE ?_)
theorem wL (v0:Value) (nums:List Int) (W:World) (w0:BO W v0 nums) (_x0:∀z∈nums,(Lit.int .i64 z).wf=true) :
  Calls Tryz.prog 7 #[v0] W (OF W (.bool true)):=by
 refine T0 (wM nums (NA w0)) ⟨rfl,fun i x y hx hy=> ?_⟩;match i,hx,hy with
 | 0,hx,hy=>simp at hx hy;subst hx hy;exact ER w0
 | n+1,hx,hy=>simp at hx
end Go.Proofs.YthblfhgofopcaaaGreat
