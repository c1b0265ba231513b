/-
  Parts of the proof: FrameQ, Frame1Q, FrmSQ, FrmHQ, Ext, RdP, MoreL, InK, RareL, WRare.
-/
import Derived.Test.YthblfhgofopcaaaGreatRows
import Derived.Test.YthblfhgofopcaaaGreatSH01
import Derived.ProofKit
import Derived.OpenShut
import Derived.ShutString
import Derived.ChangeOld
import Derived.Below
import Derived.Lib.SmallJoins
import Derived.Deep.Slices
import Derived.Test.YthblfhgofopcaaaGreatSH15
import Derived.Test.YthblfhgofopcaaaGreatSH17
import Derived.Test.YthblfhgofopcaaaGreatSH09
import Derived.Deep.Fields
import Derived.ChangeSame
import Derived.Test.YthblfhgofopcaaaGreatSH08
import Derived.Test.YthblfhgofopcaaaGreatSH13
import Derived.Test.YthblfhgofopcaaaGreatSH14
import Derived.Test.YthblfhgofopcaaaGreatSH46
import Derived.Test.YthblfhgofopcaaaGreatSH41
import Derived.Test.YthblfhgofopcaaaGreatSH18
set_option linter.all false
namespace Go.Proofs.YthblfhgofopcaaaGreat
open Go.RowKit Go.ChangeShapes Go.WideShapes Go.ChangeAt
theorem Rb:ownKnob Tryz.prog.godebug=none:=by kernel_rfl
theorem FH:laidOutB Tryz.prog=true:=by kernel_rfl
theorem WM:Tryz.prog.cellsOf 3=1:=by kernel_rfl
theorem OA {w:World} {x:Addr} {l c:Nat} {zs:List Int} (hl:l≤c) (hm:c≤maxLen) (hz:zs.length=c) (hcell:∀i,i<zs.length→w.cell? (x.add i)=some (.int .i64 (zs.getD i 0))) :
  BO w (.slice (some x) l c) (zs.take l):=by
 refine ⟨some x,c,by rw [List.length_take,Nat.min_eq_left (by omega)],by rw [List.length_take];omega,hm,fun i u hu=> ?_⟩;have hi:=(List.getElem?_eq_some_iff.1 hu).1;simp only [Ke,List.length_map,List.length_take] at hi;have hc:=hcell i (by omega);refine ⟨x,rfl,?_,?_⟩
 ·have:=World.block_lt_of_cell? w _ hc;rwa [Iq] at this
 ·rw [hc,←hu];have h2:i<zs.length:=by omega
  simp [List.getD,h2,show i<l by omega]
section
variable {H:Type} {enc:TypeId×Value→H} {W:World} {spare:Nat→Bool} {held:Bool}
theorem DE {t:TypeId} {fuel:Nat} {v:Value} {x:DataW H×List MemPlace} (ht:Tryz.prog.underlying t=some (.slice 3)) (h:DataW.trod enc Tryz.prog W 0 spare held fuel t [v]=some x) (hs:spare=fun _=>true) :
  ∃zs,BO W v zs∧∀z∈zs,(Lit.int .i64 z).wf=true:=by
 subst hs;rcases open_ints ht Tryz.underlying3 WM h with ⟨hcs,_⟩ | ⟨a,l,c,zs,hcs,_,hl,hm,hz,_,hcell,hwz⟩
 ·simp at hcs;subst hcs;exact ⟨[],BO.nil,by simp⟩
 ·simp at hcs;subst hcs;exact ⟨zs.take l,OA hl hm (by simpa using hz) hcell,fun z hz=>hwz z (List.mem_of_mem_take hz)⟩
end
end Go.Proofs.YthblfhgofopcaaaGreat

namespace Go.Proofs.YthblfhgofopcaaaGreat
open Go.Joins Go.ChangeShapes Go.WideShapes Go.RowKit Go.Deep
set_option maxRecDepth 100000
def cI (W:World):Cx:=⟨W,fun _=>0,fun _=>false,fun _=>False,fun _=>True,W.heap.size⟩
theorem jU (W:World):BH (cI W) (lk [] .nil):=⟨(fun r g sz es h=>by cases h),(fun r g sz es h=>by cases h),(fun r r' g g' sz sz' es es' h=>by cases h)⟩
theorem WA (W:World) {b:Nat} (hb:b<W.heap.size):Dx (cI W) (lk [] .nil) false b:=⟨hb,(by rintro ⟨r,g,sz,es,h,_⟩;cases h), .inr (.inr ⟨rfl,trivial⟩)⟩
theorem Io {W:World} {a:Addr} {u:Value} (h:W.cell? a=some u):a=⟨a.block,a.off,none⟩:=by
 obtain ⟨b,o,sp⟩:=a;cases sp with
 | none=>rfl
 | some k =>
  unfold World.cell? at h;split at h<;>simp at h
theorem ER {W:World} {v:Value} {zs:List Int} (h:BO W v zs):AS (cI W) (lk [] .nil) (AN false zs) v:=by
 obtain ⟨A,c,rfl,h1,h2,h3⟩:=h;cases zs with
 | nil=>exact .slE false 1 A c h2
 | cons z l =>
  obtain ⟨ad,rfl,hb,hc⟩:=h3 0 (.int .i64 z) rfl;have e0:ad.add 0=ad:=rfl;rw [e0] at hc;obtain ⟨b,o,rfl⟩:∃b o,ad=⟨b,o,none⟩:=⟨_,_,Io hc⟩;have hl:(z::l).length=((z::l).map I).length:=by simp
  rw [hl];have dest:∀(i:Nat) (e:AV),((z::l).map I)[i]? =some e→∃y,(z::l)[i]? =some y∧e=I y:=fun i e he=>by
   rw [List.getElem?_map] at he;cases hz:(z::l)[i]? with
   | none=>rw [hz] at he;cases he
   | some y =>
    rw [hz] at he;injection he with he
    exact ⟨y,rfl,he.symm⟩
  refine .sl false 1 ((z::l).map I) b o c (fun i _=> .int .i64 ((z::l).getD i 0)) (by rw [List.length_map];exact h1) h2 (WA W hb) (fun i e he=> ?_) (fun i e j x he hx=> ?_) (fun i e j x he hx=> ?_)
  ·obtain ⟨y,hz,rfl⟩:=dest i e he;rfl
  ·obtain ⟨y,hz,rfl⟩:=dest i e he;obtain ⟨ad',e',hb',hc'⟩:=h3 i (.int .i64 y) (by rw [Ke,List.getElem?_map,hz];rfl);injection e' with e'
   subst e';have hj:j=0:=by
    cases j with
    | zero=>rfl
    | succ j=>simp [AV.cs,I] at hx
   subst hj;rw [Addr.add_lit] at hc';show W.cell? ⟨b,o+i*1+0,none⟩=_;rw [List.getD_eq_getElem?_getD,hz];simpa using hc'
  ·obtain ⟨y,hz,rfl⟩:=dest i e he;have hj:j=0:=by
    cases j with
    | zero=>rfl
    | succ j=>simp [AV.cs,I] at hx
   subst hj;simp [AV.cs,I] at hx;subst hx;rw [List.getD_eq_getElem?_getD,hz];exact .v _
theorem T0 {f:Nat} {ys:List AV} (h:AM Tryz.prog f ys (B true)) {W:World} {vals:Array Value} (hr:QX (cI W) (lk [] .nil) ys vals):Calls Tryz.prog f vals W (OF W (.bool true)):=by
 refine (h.2 (cI W) vals rfl (jU W) hr).mono ?_;rintro e w' ⟨v,x,hl,c',rfl,rfl,⟨rfl,rfl⟩,k,_,rv⟩;have:=As rv;subst this;refine ⟨rfl,?_⟩;exact ⟨k.os,k.tape,k.output,k.size,fun b hb=>k.blk b hb (by rintro ⟨r,g,sz,es,h,_⟩;cases h)⟩
end Go.Proofs.YthblfhgofopcaaaGreat

namespace Go.Proofs.YthblfhgofopcaaaGreat
open Go.Joins Go.ChangeShapes Go.WideShapes Go.RowKit Go.Deep Go.ChangeAt
theorem NA {W:World} {v:Value} {zs:List Int} (h:BO W v zs):zs.length≤9223372036854775807:=by
 obtain ⟨_,_,_,h1,h2,_⟩:=h;unfold maxLen at h2;omega
end Go.Proofs.YthblfhgofopcaaaGreat

namespace Go.Proofs.YthblfhgofopcaaaGreat
open Go.RowKit
set_option maxRecDepth 100000
section
variable {inv:Nat→Option Nat} {f:Bool}
@[go_sem] theorem wQ (m:Rg):(Hi true m).allT=true:=by simp only [Hi,AV.allT,allTL,iU];rfl
end
def wU:List (Nat×List Nat):=[(0,[0]),(1,[4,5,6]),(2,[4,5,6,7]),(3,[4,5,6,7,23]),(4,[4,5,6,7]),(5,[4,5,6,7,8]),(6,[4,5,6,7,8,9]),(7,[4,5,6,7,8,9,34]),(8,[4,5,6,7,8,9]),(9,[4,5,6,7,8,9,52]),(10,[2]),(11,[4,5,6,7,8,9,10]),(12,[4,5,6,7,8,9,10,74]),(13,[2]),(14,[4,5,6,7,8,9,10,11]),(15,[4,5,6,7,8,9,10,11,79]),(16,[4,5,6,7,8,9,10,11]),(17,[4,5,6,7,8,9,10,11,106]),(18,[2]),(19,[4,5,6,7,8,9,10,11,122]),(20,[2]),(21,[4,5,6,7,8,9,10,11,133]),(22,[2]),(23,[2])]
@[go_sem] theorem wZ:Tryz.f10.results.toList=[.tmp 2]:=rfl
@[go_sem] theorem w7:Tryz.f42.results.toList=[.tmp 4]:=rfl
def wV:List (Nat×List Nat×List Nat):=[(19,[0,1,2,3,4,5,6,7,8,9,10,11,12,13,14,15],[0,1,3,7,15,31,15,127,255,511,15,1039,15,7183,16383,32767])]
set_option maxHeartbeats 2000000
structure FM (s:AL) (l:List Fm) (h:Hd):Prop where
 f:∀f∈l,f.ks.length≤1000000
 l:l.length≤1000000
 s:s.su.length≤1000000
 m:h.me.length≤1000000
 b:h.bag.length≤1000000
theorem HW {s:AL} {l:List Fm} {h:Hd} (hf:Ch s l h=true):∀f∈l,Az s f=0:=by
 unfold Ch at hf;simp only [Bool.and_eq_true,decide_eq_true_eq] at hf;exact (Ht hf.1).2.2
theorem UK {me:List Gp} {last fm:Int} {c:List Gp}:∀n,∀r∈L2 me last fm c n,r.gs=me++c
 | 0=>fun r hr=>by cases hr
 | n+1=>fun r hr=>by
  rw [L2] at hr;rcases List.mem_append.1 hr with hr | hr
  ·exact UK n r hr
  ·split at hr
   ·simp at hr;subst hr;rfl
   ·cases hr
theorem Ty {A:Fm→List (List Gp)} {me:List Gp} {last:Int} {l:List Fm}:∀n,∀r∈Kn A me last l n,∃f∈l,∃c∈A f,r.gs=me++c
 | 0=>fun r hr=>by cases hr
 | n+1=>fun r hr=>by
  rw [Kn] at hr;rcases List.mem_append.1 hr with hr | hr
  ·exact Ty n r hr
  ·split at hr
   ·cases hr
   ·rename_i f hf;unfold N7 at hr;obtain ⟨c,hc,hr⟩:=List.mem_flatMap.1 hr;exact ⟨f,List.mem_of_getElem? hf,c,hc,UK _ r hr⟩
def Mz (s:AL) (l:List Fm) (h:Hd) (last:Int):List Rg:=GI s h (Hf s h) l last
theorem SA {s:AL} {l:List Fm} {h:Hd} (last:Int) (hl:l.length≤100) (hm:h.me.length≤100):(Mz s l h last).length≤1000000000000∧∀r∈Mz s l h last,r.gs.length≤1000000:=by
 unfold Mz GI;split
 ·rename_i ha;unfold RJ at ha;simp only [Bool.and_eq_true,decide_eq_true_eq] at ha;obtain ⟨⟨⟨⟨c1,c2⟩,_⟩,_⟩,_⟩:=ha;have hA:∀f∈l,Yx s (Hf s h f):=fun f hf=>Nm (HW c1 f hf) c2
  refine ⟨?_,fun r hr=> ?_⟩
  ·have:=Lz (Hf s h) h.me last (fs:=l) (a:=100000) (m:=100) (fun f hf=>⟨(hA f hf).ln,fun c hc=>((hA f hf).w c hc).2.1⟩) l.length;have h2:=Nat.mul_le_mul_right (100000*100) hl;omega
  ·obtain ⟨f,hf,c,hc,e⟩:=Ty _ r hr;have:=((hA f hf).w c hc).2.1;rw [e,List.length_append];omega
 ·exact ⟨by simp,fun r hr=>by cases hr⟩
@[go_sem] theorem wX (l:List Rg):allTL (l.map (Hi true))=true:=VX (fun m=>wQ m) l
theorem wL {s:AL} {l:List Fm} {h:Hd} (last:Int) (S:FM s l h):AM Tryz.prog 28 [AO s,Bh false l,Cb false h,I last] (N0 true (Mz s l h last)) :=
 M5 s h (Hf s h) l last S.f S.l S.s S.m S.b fun hf hu f hm=>⟨Nm (HW hf f hm) hu,LU s f h (HW hf f hm) hu⟩
theorem wW {l:List Int} {n:Int}:(l.any fun z=>z==n)=decide (n∈l):=by
 rw [Bool.eq_iff_iff,List.any_eq_true,decide_eq_true_eq];exact ⟨fun ⟨x,h,e⟩=>by simp at e;subst e;exact h,fun h=>⟨n,h,by simp⟩⟩
theorem wS (l:List Int) (n:Int) (h:l.length≤1000000):AM Tryz.prog 42 [AN false l,I n] (B (l.any fun z=>z==n)):=by
 refine zb Tryz.ntmps42 ?_;let tb:=sT;let lv:=qP;(repeat' first | refine zQ ?_ | (refine zN ?_;intro K hC hK) | (refine zM ?_;try clear hK hC K) | (refine zC ?_ ?_<;>intro hb) | (refine zK ?_;intro Jo JU JC AH AJ AG))
 refine Ab l.length (fun k σ=>(l.any fun z=>z==n)=((l.drop k).any fun z=>z==n)∧σ=⟨900,[(0,AN false l),(1,I n),(5,I k)],[]⟩) [] [] 0 [0,1,5] 900 zf zf ⟨rfl,by exact zV⟩ ?_;rintro k σ' hk ⟨hR,rfl⟩ J hcJ hJ;by_cases h:k<l.length
 ·have hd:=Wb (p:=fun z=>z==n) h;obtain ⟨z,hz⟩:∃z,l[k]=z:=⟨_,rfl⟩;rw [hz] at hd;by_cases f:z=n
  ·subst f;rw [hR,hd];(have fa:=hz;(repeat' first | refine zQ ?_ | (refine zN ?_;intro K hC hK) | (refine zM ?_;try clear hK hC K) | (refine zC ?_ ?_<;>intro hb) | (refine zK ?_;intro Jo JU JC AH AJ AG))<;>(try clear fa))
   refine Aa [] ?_ ?_<;>(first | exact AK | refine zE ?_);simp
  ·(have fa:=hz;(repeat' first | refine zQ ?_ | (refine zN ?_;intro K hC hK) | (refine zM ?_;try clear hK hC K) | (refine zC ?_ ?_<;>intro hb) | (refine zK ?_;intro Jo JU JC AH AJ AG))<;>(try clear fa))
   exact hJ _ h ⟨by rw [hR,hd];simp [f],by exact zV⟩
 ·obtain rfl:k=l.length:=by omega
  (repeat' first | refine zQ ?_ | (refine zN ?_;intro K hC hK) | (refine zM ?_;try clear hK hC K) | (refine zC ?_ ?_<;>intro hb) | (refine zK ?_;intro Jo JU JC AH AJ AG))
  refine Aa [] ?_ ?_<;>(first | exact AK | refine zE ?_);rw [hR,List.drop_length];rfl
end Go.Proofs.YthblfhgofopcaaaGreat

namespace Go.Proofs.YthblfhgofopcaaaGreat
theorem wP {me:List Gp} {last fm:Int} {c:List Gp}:∀n,∀r∈L2 me last fm c n,∃j,j<n∧M1 c last j=true∧r=⟨fm,me++c,me.length+j⟩
 | 0=>fun r hr=>by cases hr
 | n+1=>fun r hr=>by
  rw [L2] at hr;rcases List.mem_append.1 hr with hr | hr
  ·obtain ⟨j,h1,h2⟩:=wP n r hr;exact ⟨j,by omega,h2⟩
  ·split at hr
   ·rename_i hh;simp at hr;exact ⟨n,by omega,hh,hr⟩
   ·cases hr
theorem wR {A:Fm→List (List Gp)} {me:List Gp} {last:Int} {l:List Fm}:∀n,∀r∈Kn A me last l n,∃(k:Nat) (f:Fm) (c:List Gp) (j:Nat),l[k]? =some f∧c∈A f∧j<c.length∧M1 c last j=true∧r=⟨k,me++c,me.length+j⟩
 | 0=>fun r hr=>by cases hr
 | n+1=>fun r hr=>by
  rw [Kn] at hr;rcases List.mem_append.1 hr with hr | hr
  ·exact wR n r hr
  ·split at hr
   ·cases hr
   ·rename_i f hf;unfold N7 at hr;obtain ⟨c,hc,hr⟩:=List.mem_flatMap.1 hr;obtain ⟨j,h1,h2,h3⟩:=wP _ r hr;exact ⟨n,f,c,j,hf,hc,h1,h2,h3⟩
theorem wO {s:AL} {l:List Fm} {h:Hd} {last:Int}:∀r∈Mz s l h last,∃(k:Nat) (f:Fm) (c:List Gp) (j:Nat),l[k]? =some f∧c∈Hf s h f∧j<c.length∧M1 c last j=true∧r=⟨k,h.me++c,h.me.length+j⟩:=fun r hr=>by
 unfold Mz GI at hr;split at hr
 ·exact wR _ r hr
 ·cases hr
structure wY (h:Hd) (f:Fm) (n:Nat):Prop where
 p:f.wh=2→h.bag.getD n 0 % 2=0∧(h.bag.getD n 0≤2∨f.ag=true)
 e:f.wh=3→(0<h.bag.getD n 0↔(n:Int)∈f.ks)
 k:f.wh=4→h.bag.getD n 0≤1
theorem wT {s:AL} {h:Hd} {f:Fm} {c:List Gp} (hc:c∈Hf s h f):(0<h.me.length→f.wh=1∨f.wh=5)∧∀n,n<h.bag.length→wY h f n:=by
 unfold Hf at hc;by_cases hm:(h.me.length:Int)≤He s f
 ·rw [if_pos hm] at hc;unfold He at hm;refine ⟨fun h0=> ?_,fun n hn=>⟨fun hw=> ?_,fun hw=> ?_,fun hw=> ?_⟩⟩
  ·by_cases h1:f.wh=1
   ·exact .inl h1
   ·by_cases h5:f.wh=5
    ·exact .inr h5
    ·rw [if_neg h1,if_neg h5] at hm;omega
  ·unfold QP at hc;rw [hw,if_neg (by decide),if_pos rfl] at hc;unfold EW at hc;split at hc
   ·cases hc
   ·rename_i hb;have hx:Iy f.ag h.bag[n]=false:=by
     cases hx:Iy f.ag h.bag[n] with
     | false=>rfl
     | true=>exact absurd (EX hn hx) hb
    have e:h.bag.getD n 0=h.bag[n]:=by simp [hn]
    unfold Iy at hx;simp at hx;rw [e];refine ⟨by omega,?_⟩;cases ha:f.ag with
    | true=>exact .inr rfl
    | false=>rw [ha] at hx;simp at hx;exact .inl (by omega)
  ·unfold QP at hc;rw [hw,if_neg (by decide),if_neg (by decide),if_pos rfl] at hc;unfold I9 at hc;split at hc
   ·rename_i hg;exact ((IV.1 hg n hn).1).symm
   ·cases hc
  ·unfold QP at hc;rw [hw,if_neg (by decide),if_neg (by decide),if_neg (by decide),if_pos rfl] at hc;unfold Gm at hc;split at hc
   ·rename_i hg;obtain ⟨w,_,hw⟩:=List.any_eq_true.1 hg;unfold K5 at hw;have:=List.all_eq_true.1 hw n (by simp;exact hn);unfold T6 at this;simp only [Bool.and_eq_true,decide_eq_true_eq] at this;exact this.1
   ·cases hc
 ·rw [if_neg hm] at hc;cases hc
end Go.Proofs.YthblfhgofopcaaaGreat

namespace Go.Proofs.YthblfhgofopcaaaGreat
open Go.RowKit
set_option maxRecDepth 100000
set_option maxHeartbeats 2000000
theorem wN {z:Int} (h0:0≤z) (h:z % 2=0):z.tmod 2=0:=by
 rw [Int.tmod_eq_emod_of_nonneg h0];exact h
set_option maxHeartbeats 8000000 in
theorem wM (nums:List Int) (hn:nums.length≤9223372036854775807):AM Tryz.prog 10 [AN false nums] (B true):=by
 refine zb Tryz.ntmps10 ?_;let tb:=wV;let lv:=wU;(repeat' first | refine zQ ?_ | (refine zN ?_;intro K hC hK) | (refine zM ?_;try clear hK hC K) | (refine zC ?_ ?_<;>intro hb) | (refine zK ?_;intro Jo JU JC AH AJ AG))
 (refine zX (tg []) (Tu nums hn) ?_;clear AH AJ AG Jo JU JC);intro xr hxr;have V:=hxr.made.ok;have hxl:=hxr.xl;have hpl:=(A7 V).2.2.2;have hfull:=hxr.full;have hfo:=hxr.fo;have hf3:=hxr.f3;obtain ⟨y,t,fs,ms,X,g0⟩:=xr;dsimp only at V hxl hpl hfull hfo hf3 ⊢;have ho:G5 t ⟨X,ms⟩:=DP (by unfold Am at hfull;simp at hfull;exact hfull.1);have hmm:=ho.mm;have hrg:=ho.rg;have hme:=(AU V).me;have hsu3:=(AU V).su3;dsimp only at hmm hrg;have hTX:List.take X.length X=X:=List.take_length;have hk0:∀g∈fs,g.ks.length≤1000000:=fun g hg=>by have:=(hfo g hg).2;omega
 have CU:=Kc t ⟨X,ms⟩ (by dsimp only;omega) (by dsimp only;omega);rw [hfull] at CU;clear hxr hfull ho;(have fa:=hTX;(repeat' first | refine zQ ?_ | (refine zN ?_;intro K hC hK) | (refine zM ?_;try clear hK hC K) | (refine zC ?_ ?_<;>intro hb) | (refine zK ?_;intro Jo JU JC AH AJ AG))<;>(try clear fa))
 refine Ab X.length (fun k σ=>σ=⟨900,[(4, .ref 0 0 0 0),(5,Bh false fs),(6, .ref 1 0 0 0),(7,I k)],[(0, .arr 0 9 [AO t]),(1, .arr 0 2 [.agg [AN true X,AX false ms]])]⟩) [(128,0),(144,1)] [(0,0),(1,1)] 1 [4,5,6,7] 900 zf zf (by (have fa:=hTX;exact zV)) ?_;rintro k σ' hk rfl J hcJ hJ;by_cases hlt:k<X.length
 ·have P1:=wL (s:=t) (l:=fs) (h:=⟨X,ms⟩) k ⟨hk0,by omega,by omega,by dsimp only;omega,by dsimp only;omega⟩;obtain ⟨p1,p2⟩:=SA (s:=t) (l:=fs) (h:=⟨X,ms⟩) k (by omega) (by dsimp only;omega);have hrd:=wO (s:=t) (l:=fs) (h:=⟨X,ms⟩) (last:=k);obtain ⟨RR,hRR⟩:∃RR,Mz t fs ⟨X,ms⟩ k=RR:=⟨_,rfl⟩;rw [hRR] at P1 p1 hrd;clear hRR p2;(have fa:=hTX;(repeat' first | refine zS P1 ?_ | refine zQ ?_ | (refine zN ?_;intro K hC hK) | (refine zM ?_;try clear hK hC K) | (refine zC ?_ ?_<;>intro hb) | (refine zK ?_;intro Jo JU JC AH AJ AG))<;>(try clear fa))
  refine Ab RR.length (fun i σ=>σ=⟨1900,[(4, .ref 0 0 0 0),(5,Bh false fs),(6, .ref 1 0 0 0),(7,I k),(8,N0 true RR),(9,I i)],[(0, .arr 0 9 [AO t]),(1, .arr 0 2 [.agg [AN true X,AX false ms]])]⟩) [(0,0),(1,1)] [(0,0),(1,1)] 0 [4,5,6,7,8,9] 1900 zf zf (by (have fa:=hTX;exact zV)) ?_;rintro i σ'' hi rfl J2 hcJ2 hJ2;by_cases hli:i<RR.length
  ·obtain ⟨r,hr⟩:∃r,RR[i]=r:=⟨_,rfl⟩;obtain ⟨q,f,c,j,e1,e2,e3,e4,e5⟩:=hrd r (by rw [←hr];exact List.getElem_mem hli);obtain ⟨hq,hf⟩:=List.getElem?_eq_some_iff.1 e1;obtain ⟨g1,g2⟩:=wT e2;have hkf:=hk0 f (by rw [←hf];exact List.getElem_mem hq);subst e5;clear e1 e2 e3 e4 hrd P1;have hm1:0<ms.length→f.wh=1∨f.wh=5:=g1;obtain ⟨wh,ks,ag⟩:=f;dsimp only at hm1 hkf g2;(have fa:=(And.intro hr (And.intro hf hTX));(repeat' first | refine zQ ?_ | (refine zN ?_;intro K hC hK) | (refine zM ?_;try clear hK hC K) | (refine zC ?_ ?_<;>intro hb) | (refine zK ?_;intro Jo JU JC AH AJ AG))<;>(try clear fa))
   all_goals
    refine Ab X.length (fun n σ=>σ=⟨2900,[(4, .ref 0 0 0 0),(5,Bh false fs),(6, .ref 1 0 0 0),(7,I k),(8,N0 true RR),(9,I i),(10, .ref 2 0 0 0),(11,I n)],[(0, .arr 0 9 [AO t]),(1, .arr 0 2 [.agg [AN true X,AX false ms]]),(2, .arr 0 3 [DN false ⟨wh,ks,ag⟩])]⟩) [(0,0),(1,1),(2348,2)] [(0,0),(1,1),(2,2)] 0 [4,5,6,7,8,9,10,11] 2900 zf zf (by (have fa:=hTX;exact zV)) ?_;rintro n σ3 hn3 rfl J3 hcJ3 hJ3;by_cases hnl:n<X.length
    ·obtain ⟨z,hz⟩:∃z,X[n]=z:=⟨_,rfl⟩;have hzb:=hrg z (by rw [←hz];exact List.getElem_mem hnl);have hg:X.getD n 0=z:=by simp [hnl,hz]
     have CI:=wS ks n (by omega);rw [wW] at CI;obtain ⟨r2,r3,r4⟩:=g2 n hnl;dsimp only at r2 r3 r4;rw [hg] at r2 r3 r4;clear g2 hb;rcases (show wh=2∨wh=3∨wh=4∨(wh≠2∧wh≠3∧wh≠4) by omega) with hw | hw | hw | hw
     ·try (exfalso;have h0:0<ms.length:=by omega
           rcases hm1 h0 with h | h<;>omega)
      all_goals
       subst hw;obtain ⟨a1,a2⟩:=r2 rfl;have a3:=wN hzb.1 a1;clear r2 r3 r4 hm1 g1;rcases a2 with a2 | a2
       ·(have fa:=(And.intro hz (And.intro a3 @bne_self_eq_false.{0}));(repeat' first | refine zQ ?_ | (refine zN ?_;intro K hC hK) | (refine zM ?_;try clear hK hC K) | (refine zC ?_ ?_<;>intro hb) | (refine zK ?_;intro Jo JU JC AH AJ AG))<;>(try clear fa))
        all_goals exact hJ3 _ hnl (by exact zV)
       ·subst a2;(have fa:=(And.intro hz (And.intro a3 @bne_self_eq_false.{0}));(repeat' first | refine zQ ?_ | (refine zN ?_;intro K hC hK) | (refine zM ?_;try clear hK hC K) | (refine zC ?_ ?_<;>intro hb) | (refine zK ?_;intro Jo JU JC AH AJ AG))<;>(try clear fa))
        all_goals exact hJ3 _ hnl (by exact zV)
     ·try (exfalso;have h0:0<ms.length:=by omega
           rcases hm1 h0 with h | h<;>omega)
      all_goals
       subst hw;replace r3:=r3 rfl;clear r2 r4 hm1 g1;by_cases hk:(n:Int)∈ks
       ·have h0:=r3.2 hk;rw [decide_eq_true hk] at CI;clear r3;(have fa:=(And.intro hz @bne_self_eq_false.{0});(repeat' first | refine zS CI ?_ | refine zQ ?_ | (refine zN ?_;intro K hC hK) | (refine zM ?_;try clear hK hC K) | (refine zC ?_ ?_<;>intro hb) | (refine zK ?_;intro Jo JU JC AH AJ AG))<;>(try clear fa))
        exact hJ3 _ hnl (by exact zV)
       ·have h0:¬0<z:=fun h=>hk (r3.1 h)
        rw [decide_eq_false hk] at CI;clear r3;(have fa:=(And.intro hz @bne_self_eq_false.{0});(repeat' first | refine zS CI ?_ | refine zQ ?_ | (refine zN ?_;intro K hC hK) | (refine zM ?_;try clear hK hC K) | (refine zC ?_ ?_<;>intro hb) | (refine zK ?_;intro Jo JU JC AH AJ AG))<;>(try clear fa))
        exact hJ3 _ hnl (by exact zV)
     ·try (exfalso;have h0:0<ms.length:=by omega
           rcases hm1 h0 with h | h<;>omega)
      all_goals
       subst hw;replace r4:=r4 rfl;clear r2 r3 hm1 g1;(have fa:=hz;(repeat' first | refine zQ ?_ | (refine zN ?_;intro K hC hK) | (refine zM ?_;try clear hK hC K) | (refine zC ?_ ?_<;>intro hb) | (refine zK ?_;intro Jo JU JC AH AJ AG))<;>(try clear fa))
       exact hJ3 _ hnl (by exact zV)
     ·obtain ⟨w2,w3,w4⟩:=hw;clear r2 r3 r4 hm1 g1;(have fa:=hz;(repeat' first | refine zQ ?_ | (refine zN ?_;intro K hC hK) | (refine zM ?_;try clear hK hC K) | (refine zC ?_ ?_<;>intro hb) | (refine zK ?_;intro Jo JU JC AH AJ AG))<;>(try clear fa))
      exact hJ3 _ hnl (by exact zV)
    ·obtain rfl:n=X.length:=by omega
     (repeat' first | refine zQ ?_ | (refine zN ?_;intro K hC hK) | (refine zM ?_;try clear hK hC K) | (refine zC ?_ ?_<;>intro hb) | (refine zK ?_;intro Jo JU JC AH AJ AG))
     exact hJ2 _ hli (by exact zV)
  ·obtain rfl:i=RR.length:=by omega
   (repeat' first | refine zQ ?_ | (refine zN ?_;intro K hC hK) | (refine zM ?_;try clear hK hC K) | (refine zC ?_ ?_<;>intro hb) | (refine zK ?_;intro Jo JU JC AH AJ AG))
   exact hJ _ hlt (by (have fa:=hTX;exact zV))
 ·obtain rfl:k=X.length:=by omega
  (have fa:=hTX;(repeat' first | refine zS CU ?_ | refine zS Gy ?_ | refine zQ ?_ | (refine zN ?_;intro K hC hK) | (refine zM ?_;try clear hK hC K) | (refine zC ?_ ?_<;>intro hb) | (refine zK ?_;intro Jo JU JC AH AJ AG))<;>(try clear fa))
  refine Aa [] ?_ ?_<;>(first | exact AK | refine zE ?_)
theorem wK (v0:Value) (nums:List Int) (W:World) (w0:BO W v0 nums) (_x0:∀z∈nums,(Lit.int .i64 z).wf=true) :
  Calls Tryz.prog 10 #[v0] W (OF W (.bool true)):=by
 refine T0 (wM nums (NA w0)) ⟨rfl,fun i x y hx hy=> ?_⟩;match i,hx,hy with
 | 0,hx,hy=>simp at hx hy;subst hx hy;exact ER w0
 | n+1,hx,hy=>simp at hx
end Go.Proofs.YthblfhgofopcaaaGreat
