/-
  Parts of the proof: FrameQ, Frame1Q, FrmSQ, FrmHQ, Ext, RdP, MoreL, ApL, TakeL, TakeW, WAny.
-/
import Derived.Test.YthblfhgofopcaaaGreatRows
import Derived.Test.YthblfhgofopcaaaGreatSH01
import Derived.ProofKit
import Derived.OpenShut
import Derived.ShutString
import Derived.ChangeOld
import Derived.Below
import Derived.Lib.SmallJoins
import Derived.Deep.Slices
import Derived.Test.YthblfhgofopcaaaGreatSH15
import Derived.Test.YthblfhgofopcaaaGreatSH17
import Derived.Test.YthblfhgofopcaaaGreatSH09
import Derived.Deep.Fields
import Derived.ChangeSame
import Derived.Test.YthblfhgofopcaaaGreatSH08
import Derived.Test.YthblfhgofopcaaaGreatSH13
import Derived.Test.YthblfhgofopcaaaGreatSH14
import Derived.Test.YthblfhgofopcaaaGreatSH46
import Derived.Test.YthblfhgofopcaaaGreatSH41
import Derived.Test.YthblfhgofopcaaaGreatSH42
set_option linter.all false
namespace Go.Proofs.YthblfhgofopcaaaGreat
open Go.RowKit Go.ChangeShapes Go.WideShapes Go.ChangeAt
theorem Rb:ownKnob Tryz.prog.godebug=none:=by kernel_rfl
theorem FH:laidOutB Tryz.prog=true:=by kernel_rfl
theorem WM:Tryz.prog.cellsOf 3=1:=by kernel_rfl
theorem OA {w:World} {x:Addr} {l c:Nat} {zs:List Int} (hl:l≤c) (hm:c≤maxLen) (hz:zs.length=c) (hcell:∀i,i<zs.length→w.cell? (x.add i)=some (.int .i64 (zs.getD i 0))) :
  BO w (.slice (some x) l c) (zs.take l):=by
 refine ⟨some x,c,by rw [List.length_take,Nat.min_eq_left (by omega)],by rw [List.length_take];omega,hm,fun i u hu=> ?_⟩;have hi:=(List.getElem?_eq_some_iff.1 hu).1;simp only [Ke,List.length_map,List.length_take] at hi;have hc:=hcell i (by omega);refine ⟨x,rfl,?_,?_⟩
 ·have:=World.block_lt_of_cell? w _ hc;rwa [Iq] at this
 ·rw [hc,←hu];have h2:i<zs.length:=by omega
  simp [List.getD,h2,show i<l by omega]
section
variable {H:Type} {enc:TypeId×Value→H} {W:World} {spare:Nat→Bool} {held:Bool}
theorem DE {t:TypeId} {fuel:Nat} {v:Value} {x:DataW H×List MemPlace} (ht:Tryz.prog.underlying t=some (.slice 3)) (h:DataW.trod enc Tryz.prog W 0 spare held fuel t [v]=some x) (hs:spare=fun _=>true) :
  ∃zs,BO W v zs∧∀z∈zs,(Lit.int .i64 z).wf=true:=by
 subst hs;rcases open_ints ht Tryz.underlying3 WM h with ⟨hcs,_⟩ | ⟨a,l,c,zs,hcs,_,hl,hm,hz,_,hcell,hwz⟩
 ·simp at hcs;subst hcs;exact ⟨[],BO.nil,by simp⟩
 ·simp at hcs;subst hcs;exact ⟨zs.take l,OA hl hm (by simpa using hz) hcell,fun z hz=>hwz z (List.mem_of_mem_take hz)⟩
end
end Go.Proofs.YthblfhgofopcaaaGreat

namespace Go.Proofs.YthblfhgofopcaaaGreat
open Go.Joins Go.ChangeShapes Go.WideShapes Go.RowKit Go.Deep
set_option maxRecDepth 100000
def cI (W:World):Cx:=⟨W,fun _=>0,fun _=>false,fun _=>False,fun _=>True,W.heap.size⟩
theorem jU (W:World):BH (cI W) (lk [] .nil):=⟨(fun r g sz es h=>by cases h),(fun r g sz es h=>by cases h),(fun r r' g g' sz sz' es es' h=>by cases h)⟩
theorem WA (W:World) {b:Nat} (hb:b<W.heap.size):Dx (cI W) (lk [] .nil) false b:=⟨hb,(by rintro ⟨r,g,sz,es,h,_⟩;cases h), .inr (.inr ⟨rfl,trivial⟩)⟩
theorem Io {W:World} {a:Addr} {u:Value} (h:W.cell? a=some u):a=⟨a.block,a.off,none⟩:=by
 obtain ⟨b,o,sp⟩:=a;cases sp with
 | none=>rfl
 | some k =>
  unfold World.cell? at h;split at h<;>simp at h
theorem ER {W:World} {v:Value} {zs:List Int} (h:BO W v zs):AS (cI W) (lk [] .nil) (AN false zs) v:=by
 obtain ⟨A,c,rfl,h1,h2,h3⟩:=h;cases zs with
 | nil=>exact .slE false 1 A c h2
 | cons z l =>
  obtain ⟨ad,rfl,hb,hc⟩:=h3 0 (.int .i64 z) rfl;have e0:ad.add 0=ad:=rfl;rw [e0] at hc;obtain ⟨b,o,rfl⟩:∃b o,ad=⟨b,o,none⟩:=⟨_,_,Io hc⟩;have hl:(z::l).length=((z::l).map I).length:=by simp
  rw [hl];have dest:∀(i:Nat) (e:AV),((z::l).map I)[i]? =some e→∃y,(z::l)[i]? =some y∧e=I y:=fun i e he=>by
   rw [List.getElem?_map] at he;cases hz:(z::l)[i]? with
   | none=>rw [hz] at he;cases he
   | some y =>
    rw [hz] at he;injection he with he
    exact ⟨y,rfl,he.symm⟩
  refine .sl false 1 ((z::l).map I) b o c (fun i _=> .int .i64 ((z::l).getD i 0)) (by rw [List.length_map];exact h1) h2 (WA W hb) (fun i e he=> ?_) (fun i e j x he hx=> ?_) (fun i e j x he hx=> ?_)
  ·obtain ⟨y,hz,rfl⟩:=dest i e he;rfl
  ·obtain ⟨y,hz,rfl⟩:=dest i e he;obtain ⟨ad',e',hb',hc'⟩:=h3 i (.int .i64 y) (by rw [Ke,List.getElem?_map,hz];rfl);injection e' with e'
   subst e';have hj:j=0:=by
    cases j with
    | zero=>rfl
    | succ j=>simp [AV.cs,I] at hx
   subst hj;rw [Addr.add_lit] at hc';show W.cell? ⟨b,o+i*1+0,none⟩=_;rw [List.getD_eq_getElem?_getD,hz];simpa using hc'
  ·obtain ⟨y,hz,rfl⟩:=dest i e he;have hj:j=0:=by
    cases j with
    | zero=>rfl
    | succ j=>simp [AV.cs,I] at hx
   subst hj;simp [AV.cs,I] at hx;subst hx;rw [List.getD_eq_getElem?_getD,hz];exact .v _
theorem T0 {f:Nat} {ys:List AV} (h:AM Tryz.prog f ys (B true)) {W:World} {vals:Array Value} (hr:QX (cI W) (lk [] .nil) ys vals):Calls Tryz.prog f vals W (OF W (.bool true)):=by
 refine (h.2 (cI W) vals rfl (jU W) hr).mono ?_;rintro e w' ⟨v,x,hl,c',rfl,rfl,⟨rfl,rfl⟩,k,_,rv⟩;have:=As rv;subst this;refine ⟨rfl,?_⟩;exact ⟨k.os,k.tape,k.output,k.size,fun b hb=>k.blk b hb (by rintro ⟨r,g,sz,es,h,_⟩;cases h)⟩
end Go.Proofs.YthblfhgofopcaaaGreat

namespace Go.Proofs.YthblfhgofopcaaaGreat
open Go.Joins Go.ChangeShapes Go.WideShapes Go.RowKit Go.Deep Go.ChangeAt
theorem NA {W:World} {v:Value} {zs:List Int} (h:BO W v zs):zs.length≤9223372036854775807:=by
 obtain ⟨_,_,_,h1,h2,_⟩:=h;unfold maxLen at h2;omega
end Go.Proofs.YthblfhgofopcaaaGreat

namespace Go.Proofs.YthblfhgofopcaaaGreat
open Go.RowKit
set_option maxRecDepth 100000
section
variable {inv:Nat→Option Nat} {f:Bool}
@[go_sem] theorem yC (l:List Rg):nobL inv (l.map (Hi f))=true:=Mv (fun m=>by simp only [Hi,AV.nob,nobL,Rl];rfl) l
@[go_sem] theorem xN (m:Rg):(Hi true m).allT=true:=by simp only [Hi,AV.allT,allTL,iU];rfl
end
def x8:List (Nat×List Nat):=[(0,[0]),(1,[4,5,6]),(2,[4,5,6,7]),(3,[4,5,6,7,8]),(4,[4,5,6,7,8,9]),(5,[4,5,6,7,8,9,10]),(6,[4,5,6,7,8,9,10,28]),(7,[4,5,6,7,8,9,10]),(8,[4,5,6,7,8,9,10,11]),(9,[4,5,6,7,8,9,10,11,42]),(10,[4,5,6,7,8,9,10,45]),(11,[2]),(12,[4,5,6,7,8,9,10,11,47]),(13,[4,5,6,7,8,9,10,11]),(14,[4,5,6,7,8,9,10,11,60]),(15,[2]),(16,[4,5,6,7,8,9,10,11,12]),(17,[4,5,6,7,8,9,10,11,12,64]),(18,[4,5,6,7,8,9,10,11,12]),(19,[4,5,6,7,8,9,10,11,12,91]),(20,[2]),(21,[2])]
@[go_sem] theorem yH:Tryz.f6.results.toList=[.tmp 2]:=rfl
@[go_sem] theorem yG:Tryz.f38.results.toList=[.tmp 2]:=rfl
@[go_sem] theorem yF:Tryz.f103.results.toList=[.tmp 4]:=rfl
def yB:List (Nat×List Nat×List Nat):=[(19,[0,1,2,3,4,5,6,7,8,9,10,11,12,13,14,15,16,17,18,19,20,21,22,23,24],[0,0,3,7,15,0,0,96,224,480,1023,2047,4095,4095,16383,32767,65535,4095,4095,397311,921599,1970175,4194303,8388607,16777215])]
set_option maxHeartbeats 2000000
def Ug (s:AL) (l:List Fm) (h:Hd):Bool:=Dn s h (Hf s h) l
structure FM (s:AL) (l:List Fm) (h:Hd):Prop where
 f:∀f∈l,f.ks.length≤1000000
 l:l.length≤1000000
 s:s.su.length≤1000000
 m:h.me.length≤1000000
 b:h.bag.length≤1000000
theorem HW {s:AL} {l:List Fm} {h:Hd} (hf:Ch s l h=true):∀f∈l,Az s f=0:=by
 unfold Ch at hf;simp only [Bool.and_eq_true,decide_eq_true_eq] at hf;exact (Ht hf.1).2.2
theorem Fw {s:AL} {l:List Fm} {h:Hd} (S:FM s l h):AM Tryz.prog 33 [AO s,Bh false l,Cb false h] (B (Ug s l h)) :=
 OD s h (Hf s h) l S.f S.l S.s S.m S.b fun hf hu f hm=>LU s f h (HW hf f hm) hu
theorem UK {me:List Gp} {last fm:Int} {c:List Gp}:∀n,∀r∈L2 me last fm c n,r.gs=me++c
 | 0=>fun r hr=>by cases hr
 | n+1=>fun r hr=>by
  rw [L2] at hr;rcases List.mem_append.1 hr with hr | hr
  ·exact UK n r hr
  ·split at hr
   ·simp at hr;subst hr;rfl
   ·cases hr
theorem Ty {A:Fm→List (List Gp)} {me:List Gp} {last:Int} {l:List Fm}:∀n,∀r∈Kn A me last l n,∃f∈l,∃c∈A f,r.gs=me++c
 | 0=>fun r hr=>by cases hr
 | n+1=>fun r hr=>by
  rw [Kn] at hr;rcases List.mem_append.1 hr with hr | hr
  ·exact Ty n r hr
  ·split at hr
   ·cases hr
   ·rename_i f hf;unfold N7 at hr;obtain ⟨c,hc,hr⟩:=List.mem_flatMap.1 hr;exact ⟨f,List.mem_of_getElem? hf,c,hc,UK _ r hr⟩
def Mz (s:AL) (l:List Fm) (h:Hd) (last:Int):List Rg:=GI s h (Hf s h) l last
theorem SA {s:AL} {l:List Fm} {h:Hd} (last:Int) (hl:l.length≤100) (hm:h.me.length≤100):(Mz s l h last).length≤1000000000000∧∀r∈Mz s l h last,r.gs.length≤1000000:=by
 unfold Mz GI;split
 ·rename_i ha;unfold RJ at ha;simp only [Bool.and_eq_true,decide_eq_true_eq] at ha;obtain ⟨⟨⟨⟨c1,c2⟩,_⟩,_⟩,_⟩:=ha;have hA:∀f∈l,Yx s (Hf s h f):=fun f hf=>Nm (HW c1 f hf) c2
  refine ⟨?_,fun r hr=> ?_⟩
  ·have:=Lz (Hf s h) h.me last (fs:=l) (a:=100000) (m:=100) (fun f hf=>⟨(hA f hf).ln,fun c hc=>((hA f hf).w c hc).2.1⟩) l.length;have h2:=Nat.mul_le_mul_right (100000*100) hl;omega
  ·obtain ⟨f,hf,c,hc,e⟩:=Ty _ r hr;have:=((hA f hf).w c hc).2.1;rw [e,List.length_append];omega
 ·exact ⟨by simp,fun r hr=>by cases hr⟩
@[go_sem] theorem x9 (l:List Rg):allTL (l.map (Hi true))=true:=VX (fun m=>xN m) l
theorem wU {s:AL} {l:List Fm} {h:Hd} (last:Int) (S:FM s l h):AM Tryz.prog 28 [AO s,Bh false l,Cb false h,I last] (N0 true (Mz s l h last)) :=
 M5 s h (Hf s h) l last S.f S.l S.s S.m S.b fun hf hu f hm=>⟨Nm (HW hf f hm) hu,LU s f h (HW hf f hm) hu⟩
theorem wO {s:AL}:∀{l:List Fm},(∀f∈l,Az s f=0)→El s l=0
 | [],_=>rfl
 | f::l,h=>by
  have h1:=h f (by simp);rw [El,if_neg (by omega),wO fun g hg=>h g (by simp [hg])]
theorem xC {s:AL} {l:List Fm} (hv:AP s=0) (h0:0<l.length) (h8:l.length≤8) (h:∀f∈l,Az s f=0):A6 s l=0:=by
 unfold A6;rw [if_neg (by omega),if_neg (by omega),if_neg (by omega),wO h]
end Go.Proofs.YthblfhgofopcaaaGreat

namespace Go.Proofs.YthblfhgofopcaaaGreat
structure wX (bag:List Int) (c:List Gp):Prop where
 cl:Cl c
 sg:SG c
 ct:∀i,B7 c i=bag.getD i 0
theorem wP (g:Gp) (i:Nat):∀m:Nat,B7 (List.replicate m g) i=m*Di g i
 | 0=>by simp [B7]
 | m+1=>by
  rw [List.replicate_succ,B7,wP g i m];have:((m+1:Nat):Int)=m+1:=by omega
  rw [this,Int.add_mul];omega
theorem x5 (k:Int) (i:Nat):Di (gp 5 k) i=if k=(i:Int) then 1 else 0:=by
 show Cz [k] i=_;rw [BW];show Cz [] i+_=_;simp [Cz]
theorem yA (k:Int) (i:Nat):Di (gp 4 k) i=if k=(i:Int) then 2 else 0:=by
 show Cz [k,k] i=_;rw [BW,BW];show Cz [] i+_+_=_;simp [Cz];split<;>omega
theorem xP {w:Int} {l m:List Gp} {k:Nat} (hl:SG l) (h:∀g∈l,∃j:Nat,j<k∧(g=gp 5 j∨g=gp 4 j)) (hm:∀g∈m,g=gp w k) (hw:w=5∨w=4) (hs:∀g∈l,g.wh=w):SG (l++m):=by
 unfold SG;rw [List.pairwise_append];refine ⟨hl,?_,fun a ha b hb=> ?_⟩
 ·refine List.pairwise_of_forall_mem_list fun a ha b hb=> ?_
  rw [hm a ha,hm b hb,O0];exact Int.le_refl _
 ·obtain ⟨j,hj,e⟩:=h a ha;have h1:=hs a ha;have e2:=hm b hb;have h3:=A2 a b;have h4:b.wh=w:=by rw [e2]
  have h5:b.kd=k:=by rw [e2]
  have h6:a.kd=j:=by rcases e with e | e<;>rw [e]
  omega
theorem w7 (bag:List Int):∀k,SG (DH bag k)
 | 0=>List.Pairwise.nil
 | k+1=>by
  rw [DH];refine xP (w:=5) (k:=k) (w7 bag k) (fun g hg=> ?_) (fun g hg=>List.eq_of_mem_replicate hg) (.inl rfl) fun g hg=> ?_
  ·obtain ⟨j,hj,e⟩:=UP hg;exact ⟨j,hj, .inl e⟩
  ·obtain ⟨j,_,e⟩:=UP hg;rw [e]
theorem xI (bag:List Int):∀k,SG (FB bag k)
 | 0=>List.Pairwise.nil
 | k+1=>by
  rw [FB];refine xP (w:=4) (k:=k) (xI bag k) (fun g hg=> ?_) (fun g hg=>List.eq_of_mem_replicate hg) (.inr rfl) fun g hg=> ?_
  ·obtain ⟨j,hj,e⟩:=Qr hg;exact ⟨j,hj, .inr e⟩
  ·obtain ⟨j,_,e⟩:=Qr hg;rw [e]
theorem xA {bag:List Int} (hb:∀i,0≤bag.getD i 0) (i:Nat):∀k,B7 (DH bag k) i=if i<k then bag.getD i 0 else 0
 | 0=>by simp [DH,B7]
 | k+1=>by
  rw [DH,RC,xA hb i k,wP,x5];have:=hb k;by_cases h:k=i
  ·subst h;rw [if_neg (by omega),if_pos rfl,if_pos (by omega)];omega
  ·rw [if_neg (show ¬(k:Int)=(i:Int) by omega)];by_cases h2:i<k
   ·rw [if_pos h2,if_pos (by omega)];omega
   ·rw [if_neg h2,if_neg (by omega)];omega
theorem xJ {bag:List Int} (hb:∀i,0≤bag.getD i 0) (he:∀i,i<bag.length→bag.getD i 0 % 2=0) (i:Nat):∀k,k≤bag.length→B7 (FB bag k) i=if i<k then bag.getD i 0 else 0
 | 0,_=>by simp [FB,B7]
 | k+1,hk=>by
  rw [FB,RC,xJ hb he i k (by omega),wP,yA];have:=hb k;have:=he k (by omega);by_cases h:k=i
  ·subst h;rw [if_neg (by omega),if_pos rfl,if_pos (by omega)];omega
  ·rw [if_neg (show ¬(k:Int)=(i:Int) by omega)];by_cases h2:i<k
   ·rw [if_pos h2,if_pos (by omega)];omega
   ·rw [if_neg h2,if_neg (by omega)];omega
theorem xF {bag:List Int} (hb:∀i,0≤bag.getD i 0) (he:∀i,i<bag.length→bag.getD i 0≤2) (i:Nat):∀k,k≤bag.length→B7 (ET bag k) i=if i<k then bag.getD i 0 else 0
 | 0,_=>by simp [ET,B7]
 | k+1,hk=>by
  rw [ET,RC,xF hb he i k (by omega)];have h0:=hb k;have h2:=he k (by omega);have hx:B7 (if bag.getD k 0=1 then [gp 5 k] else if bag.getD k 0=2 then [gp 4 k] else []) i=if k=i then bag.getD k 0 else 0:=by
   by_cases c1:bag.getD k 0=1
   ·rw [if_pos c1];show Di (gp 5 k) i+0=_;rw [x5,c1];by_cases h:k=i
    ·subst h;simp
    ·rw [if_neg (show ¬(k:Int)=(i:Int) by omega),if_neg h];rfl
   ·rw [if_neg c1];by_cases c2:bag.getD k 0=2
    ·rw [if_pos c2];show Di (gp 4 k) i+0=_;rw [yA,c2];by_cases h:k=i
     ·subst h;simp
     ·rw [if_neg (show ¬(k:Int)=(i:Int) by omega),if_neg h];rfl
    ·rw [if_neg c2];show (0:Int)=_;split<;>omega
  rw [hx];by_cases h:k=i
  ·subst h;rw [if_neg (by omega),if_pos rfl,if_pos (by omega)];omega
  ·rw [if_neg h];by_cases h2:i<k
   ·rw [if_pos h2,if_pos (by omega)];omega
   ·rw [if_neg h2,if_neg (by omega)];omega
theorem xB {bag:List Int} (i:Nat):(if i<bag.length then bag.getD i 0 else 0)=bag.getD i 0:=by
 by_cases h:i<bag.length
 ·rw [if_pos h]
 ·rw [if_neg h];simp [h]
theorem xQ {bag:List Int} (hb:∀i,0≤bag.getD i 0):wX bag (Hp bag) :=
 ⟨fun g hg=>by obtain ⟨j,_,e⟩:=UP hg;rw [e],w7 bag _,fun i=>by unfold Hp;rw [xA hb,xB]⟩
theorem yE {bag:List Int} (hb:∀i,0≤bag.getD i 0) (he:∀i,i<bag.length→bag.getD i 0 % 2=0):wX bag (g7 bag) :=
 ⟨fun g hg=>by obtain ⟨j,_,e⟩:=Qr hg;rw [e],xI bag _,fun i=>by unfold g7;rw [xJ hb he i _ (Nat.le_refl _),xB]⟩
theorem x6 {bag:List Int} (hb:∀i,0≤bag.getD i 0) (he:∀i,i<bag.length→bag.getD i 0≤2):wX bag (CX (ET bag bag.length)) :=
 ⟨fun g hg=>by
  obtain ⟨j,_,e⟩:=Rp ((BV _).subset hg)
  rcases e with e | e<;>rw [e],HV _,fun i=>by rw [EK (BV _),xF hb he i _ (Nat.le_refl _),xB]⟩
theorem xO (i:Nat):∀ks,B7 (KZ ks) i=Cz ks i
 | []=>rfl
 | k::ks=>by
  show Di (gp 5 k) i+B7 (KZ ks) i=_;rw [x5,xO i ks,BW];omega
theorem xR:∀{ks:List Int},GR ks→SG (KZ ks)
 | [],_=>List.Pairwise.nil
 | k::ks,h=>by
  have h:=List.pairwise_cons.1 h;refine List.pairwise_cons.2 ⟨fun g hg=> ?_,xR h.2⟩;obtain ⟨z,hz,rfl⟩:=List.mem_map.1 hg;have:=h.1 z hz;have h3:=A2 (gp 5 k) (gp 5 z);dsimp only at h3;omega
theorem yD {s:AL} {f:Fm} {h:Hd} (hf:Az s f=0) (hU:Am s h=true):SL (Hf s h f)∧∀c∈Hf s h f,wX h.bag c:=by
 obtain ⟨ho,hsum⟩:=Pt hU;have F:=Nf hf;have V:=AU ho.va;have hme:=V.me;have hco:=V.co;have hmm:=ho.mm;obtain ⟨b1,b2,b3⟩:=Mx ho.va ho.cn;have nw:=F.nw;have hw:=F.wh;unfold Cs at nw;have hr:C7 h.bag.length (AT s):=fun k h=>by have:=Ct h;omega
 have hbg:Bg h.bag.length h.bag:=⟨rfl,fun i=>(b1 i).1⟩;have hb0:∀i,0≤h.bag.getD i 0:=fun i=>(b1 i).1
 have nil:SL ([]:List (List Gp))∧∀c∈([]:List (List Gp)),wX h.bag c:=⟨List.Pairwise.nil,fun c hc=>by cases hc⟩;have one:∀x,wX h.bag x→SL [x]∧∀c∈[x],wX h.bag c:=fun x hx=>⟨List.pairwise_singleton ..,fun c hc=>by simp at hc;subst hc;exact hx⟩
 unfold Hf;by_cases hm:(h.me.length:Int)≤He s f
 ·rw [if_pos hm];unfold QP;have hw' :f.wh=1∨f.wh=2∨f.wh=3∨f.wh=4∨f.wh=5∨f.wh=6:=by omega
  rcases hw' with hw | hw | hw | hw | hw | hw<;>rw [hw]
  ·rw [if_pos rfl];obtain ⟨h1,h2⟩:=Fb hr hbg (f:=20) (by omega);exact ⟨h1,fun c hc=>⟨((h2 c).1 hc).cl,((h2 c).1 hc).sg,((h2 c).1 hc).ct⟩⟩
  ·rw [if_neg (by decide),if_pos rfl];unfold EW;split
   ·exact nil
   ·rename_i hb;refine one _ (yE hb0 fun i hi=> ?_);have e:h.bag.getD i 0=h.bag[i]:=by simp [hi]
    have:Iy f.ag h.bag[i]=false:=by
     cases hc:Iy f.ag h.bag[i] with
     | false=>rfl
     | true=>exact absurd (EX hi hc) hb
    unfold Iy at this;simp only [Bool.or_eq_false_iff,decide_eq_false_iff_not] at this;rw [e];omega
  ·rw [if_neg (by decide),if_neg (by decide),if_pos rfl];unfold I9;split
   ·rename_i hg;have hg:=IV.1 hg;exact one _ (x6 hb0 fun i hi=>(hg i hi).2)
   ·exact nil
  ·rw [if_neg (by decide),if_neg (by decide),if_neg (by decide),if_pos rfl];unfold Gm;split
   ·exact one _ (xQ hb0)
   ·exact nil
  ·rw [if_neg (by decide),if_neg (by decide),if_neg (by decide),if_neg (by decide),if_pos rfl];have h9:s.su=[9,9,9]:=by
    by_cases h:s.su=[9,9,9]
    ·exact h
    ·exact absurd (.inr (.inr (.inr (.inr (.inl ⟨hw, .inl h⟩))))) nw
   have h27:27≤h.bag.length:=by
    have h1:=F1 ho.va;have h2:=V.wi;have h3:=V.dr;have:AQ s=s.wi+s.dr+27:=by unfold AQ;rw [h9];rfl
    omega
   obtain ⟨S,p1,p2⟩:=Qq (Ln (AT s) 20 JR h.bag);obtain ⟨e,hsl⟩:=YS hr hbg (by omega) (fun w hw=>by
    obtain ⟨a,b,c,rfl,ha,hb,hc⟩:=Gq w hw
    exact ⟨Qf ha hb hc,SW ha hb hc h27⟩) (fun a ha b hb e=>Td a ha b hb e) p1 p2
   refine ⟨hsl,fun x hx=> ?_⟩;rw [←e] at hx;have:=p1.subset hx;unfold Ln at this;obtain ⟨w,hw,hx⟩:=List.mem_flatMap.1 this;obtain ⟨a,b,c,rfl,ha,hb,hc⟩:=Gq w hw;have hin:=SW (n:=h.bag.length) ha hb hc h27;unfold HK at hx;rcases C5 _ h.bag hin hb0 with ⟨h1,h2⟩ | ⟨h1,_⟩
   ·rw [h1] at hx;dsimp only at hx;have hbd:=hbg.dec hin h2;have hsum2:=Ck _ h.bag hin;obtain ⟨l,hl,rfl⟩:=List.mem_map.1 hx;have hx:=((Fb hr hbd (f:=20) (by omega)).2 l).1 hl;have h4:=dM hx;refine ⟨fun g hg=> ?_,?_,fun i=> ?_⟩
    ·rcases List.mem_append.1 hg with hg | hg
     ·exact hx.cl g hg
     ·exact Xx _ g hg
    ·unfold SG;rw [List.pairwise_append];refine ⟨hx.sg,xR (Qf ha hb hc),fun g hg y hy=> ?_⟩;have h5:=h4 g hg;have h6:=gP _ y hy;have h7:=A2 g y;omega
    ·rw [RC,hx.ct,xO,BF _ _ hin];omega
   ·rw [h1] at hx;cases hx
  ·rw [if_neg (by decide),if_neg (by decide),if_neg (by decide),if_neg (by decide),if_neg (by decide)];unfold Ni;split
   ·exact one _ (xQ hb0)
   ·exact nil
 ·rw [if_neg hm];exact nil
def wK:List Gp→List Gp→Int
 | a::l,b::m=>if C6 a b=0 then wK l m else C6 a b
 | l,m=>l.length-m.length
theorem wQ:∀a b:List Gp,(wK a b=0↔BL a b=0)∧(0<wK a b↔0<BL a b)
 | [],[]=>by simp [wK,BL]
 | [],_::_=>by simp [wK,BL];omega
 | _::_,[]=>by simp [wK,BL];omega
 | a::l,b::m=>by
  have ih:=wQ l m;unfold wK BL;by_cases h:C6 a b=0
  ·rw [if_pos h,if_pos h];exact ih
  ·rw [if_neg h,if_neg h];exact ⟨.rfl, .rfl⟩
theorem xD (a b:List Gp) {k:Nat} (h1:k<a.length) (h2:k<b.length):wK (a.drop k) (b.drop k)=if C6 a[k] b[k]=0 then wK (a.drop (k+1)) (b.drop (k+1)) else C6 a[k] b[k]:=by
 rw [List.drop_eq_getElem_cons h1,List.drop_eq_getElem_cons h2,wK]
theorem xL (a b:List Gp) {k:Nat} (h:¬(k<a.length∧k<b.length)) (h1:k≤a.length) (h2:k≤b.length):wK (a.drop k) (b.drop k)=(a.length:Int)-b.length:=by
 have e:a.drop k=[]∨b.drop k=[]:=by
  by_cases h3:k<a.length
  ·exact .inr (List.drop_eq_nil_of_le (by omega))
  ·exact .inl (List.drop_eq_nil_of_le (by omega))
 have l1:(a.drop k).length=a.length-k:=List.length_drop;have l2:(b.drop k).length=b.length-k:=List.length_drop;rcases e with e | e
 ·rw [e] at l1 ⊢;cases hb:b.drop k with
  | nil=>rw [hb] at l2;simp [wK] at *;omega
  | cons y m=>rw [hb] at l2;simp [wK] at *;omega
 ·rw [e] at l2 ⊢;cases ha:a.drop k with
  | nil=>rw [ha] at l1;simp [wK] at *;omega
  | cons y m=>rw [ha] at l1;simp [wK] at *;omega
theorem xG:∀(m a b:List Gp),BL (m++a) (m++b)=BL a b
 | [],_,_=>rfl
 | g::m,a,b=>by
  show (if C6 g g=0 then BL (m++a) (m++b) else C6 g g)=_;rw [O0,if_pos rfl,xG m a b]
def wN (p:Option Rg) (r:Rg):Bool:=match p with
 | none=>true
 | some q=>decide (r.fm≠q.fm) || decide (BL r.gs q.gs≠0)
def wM (l:List Rg):Nat→List Rg
 | 0=>[]
 | n+1=>wM l n++match l[n]? with
  | none=>[]
  | some r=>if wN (if n=0 then none else l[n-1]?) r=true then [r] else []
def tk (l:List Rg):List Rg:=wM l l.length
theorem w9 (l m:List Rg):∀n,n≤l.length→wM (l++m) n=wM l n
 | 0,_=>rfl
 | n+1,h=>by
  rw [wM,wM,w9 l m n (by omega),List.getElem?_append_left (by omega),List.getElem?_append_left (by omega)]
theorem xW (l:List Rg) (r:Rg):tk (l++[r])=tk l++if wN l.getLast? r=true then [r] else []:=by
 unfold tk;rw [List.length_append,List.length_singleton,wM,w9 l [r] _ (Nat.le_refl _),List.getElem?_append_right (Nat.le_refl _),Nat.sub_self];have e:(if l.length=0 then none else (l++[r])[l.length-1]?)=l.getLast? :=by
  by_cases h:l.length=0
  ·rw [if_pos h,List.eq_nil_of_length_eq_zero h];rfl
  ·rw [if_neg h,List.getElem?_append_left (by omega),List.getLast?_eq_getElem?]
 rw [e];rfl
theorem wR (l:List Rg):∀n,(wM l n).length≤n
 | 0=>Nat.le_refl _
 | n+1=>by
  have:=wR l n;rw [wM,List.length_append];have one:∀(b:Bool) (r:Rg),(if b=true then [r] else []).length≤1:=fun b r=>by cases b<;>simp
  cases l[n]? with
  | none=>simp;omega
  | some r =>
   have:=one (wN (if n=0 then none else l[n-1]?) r) r;simp only;omega
theorem wZ (l:List Rg):∀n,∀r∈wM l n,r∈l
 | 0=>fun r hr=>by cases hr
 | n+1=>fun r hr=>by
  rw [wM] at hr;rcases List.mem_append.1 hr with hr | hr
  ·exact wZ l n r hr
  ·cases hq:l[n]? with
   | none=>rw [hq] at hr;cases hr
   | some q =>
    rw [hq] at hr;simp only at hr;have one:∀(b:Bool),r∈(if b=true then [q] else [])→r=q:=fun b h=>by cases b<;>simp at h;exact h
    rw [one _ hr];exact List.mem_of_getElem? hq
def wL (r:Rg):Int×List Gp:=(r.fm,r.gs)
theorem xT {me:List Gp} {last fm:Int} {c:List Gp} {L:List Rg} (hn:∀j,wN L.getLast? ⟨fm,me++c,j⟩=true):∀n,(tk (L++L2 me last fm c n)).map wL=(tk L).map wL++(if L2 me last fm c n=[] then [] else [(fm,me++c)])∧(L2 me last fm c n≠[]→∃j,(L++L2 me last fm c n).getLast? =some ⟨fm,me++c,j⟩)
 | 0=>⟨by simp [L2],fun h=>absurd rfl h⟩
 | n+1=>by
  obtain ⟨h1,h2⟩:=xT hn (last:=last) n;rw [L2];by_cases hh:M1 c last n=true
  ·rw [if_pos hh];obtain ⟨r,hr⟩:∃r:Rg,(⟨fm,me++c,me.length+n⟩:Rg)=r:=⟨_,rfl⟩;rw [hr,←List.append_assoc,xW,List.map_append,h1];refine ⟨?_,fun _=>⟨(me.length:Int)+n,by rw [←hr];simp⟩⟩;by_cases he:L2 me last fm c n=[]
   ·rw [he,List.append_nil,←hr,hn,if_pos rfl];simp [wL]
   ·obtain ⟨j,hj⟩:=h2 he;rw [hj,if_neg he];have:wN (some ⟨fm,me++c,j⟩) r=false:=by
     rw [←hr];simp [wN,Ez]
    rw [this];simp
  ·rw [if_neg hh,List.append_nil];exact ⟨h1,h2⟩
theorem xS {me:List Gp} {last fm:Int}:∀{cs:List (List Gp)} {L:List Rg},(∀c∈cs,L2 me last fm c c.length≠[])→(∀c∈cs,∀j,wN L.getLast? ⟨fm,me++c,j⟩=true)→SL cs→
  (tk (L++N7 me last fm cs)).map wL=(tk L).map wL++cs.map (fun c=>(fm,me++c))∧∀q,(L++N7 me last fm cs).getLast? =some q→q.fm=fm∨L.getLast? =some q
 | [],L,_,_,_=>⟨by simp [N7],fun q hq=> .inr (by simpa [N7] using hq)⟩
 | c::cs,L,h1,h2,h3=>by
  have h3:=List.pairwise_cons.1 h3;obtain ⟨a1,a2⟩:=xT (last:=last) (h2 c (by simp)) c.length;have hne:=h1 c (by simp);rw [if_neg hne] at a1;obtain ⟨j,hj⟩:=a2 hne;have e:N7 me last fm (c::cs)=L2 me last fm c c.length++N7 me last fm cs:=by unfold N7;rw [List.flatMap_cons]
  rw [e,←List.append_assoc];obtain ⟨b1,b2⟩:=xS (cs:=cs) (L:=L++L2 me last fm c c.length) (fun x hx=>h1 x (by simp [hx])) (fun x hx i=>by
   rw [hj]
   have:=h3.1 x hx
   have h4:=Dy c x
   simp only [wN,xG]
   simp;omega) h3.2
  refine ⟨by rw [b1,a1,List.map_cons,List.append_assoc];rfl,fun q hq=> ?_⟩;rcases b2 q hq with h | h
  ·exact .inl h
  ·rw [hj] at h;injection h with h
   exact .inl (by rw [←h])
def wY (A:Fm→List (List Gp)) (me:List Gp) (l:List Fm):Nat→List (Int×List Gp)
 | 0=>[]
 | n+1=>wY A me l n++match l[n]? with
  | none=>[]
  | some f=>(A f).map fun c=>((n:Int),me++c)
theorem xU {A:Fm→List (List Gp)} {me:List Gp} {last:Int} {l:List Fm} (hA:∀f∈l,SL (A f)∧∀c∈A f,∀fm,L2 me last fm c c.length≠[]):∀n,(tk (Kn A me last l n)).map wL=wY A me l n∧∀q,(Kn A me last l n).getLast? =some q→q.fm<(n:Int)
 | 0=>⟨rfl,fun q hq=>by cases hq⟩
 | n+1=>by
  obtain ⟨h1,h2⟩:=xU (last:=last) hA n;rw [Kn,wY];cases hf:l[n]? with
  | none =>
   simp only [List.append_nil];exact ⟨h1,fun q hq=>by have:=h2 q hq;omega⟩
  | some f =>
   simp only;have hA:=hA f (List.mem_of_getElem? hf);obtain ⟨b1,b2⟩:=xS (me:=me) (last:=last) (fm:=n) (cs:=A f) (L:=Kn A me last l n) (fun c hc=>hA.2 c hc n) (fun c hc j=>by
    cases hl:(Kn A me last l n).getLast? with
    | none=>rfl
    | some q =>
     have:=h2 q hl
     simp only [wN]
     simp;omega) hA.1
   rw [b1,h1];refine ⟨rfl,fun q hq=> ?_⟩;rcases b2 q hq with h | h
   ·omega
   ·have:=h2 q h;omega
theorem xV {c:List Gp} {last:Int}:∀i,(hi:i<c.length)→((AI c[i].wh c[i].kd).any fun y=>y==last)=true→∃j,j≤i∧M1 c last j=true
 | 0,hi,h=>⟨0,Nat.le_refl _,by unfold M1;rw [List.getElem?_eq_getElem hi];simp [h]⟩
 | i+1,hi,h=>by
  by_cases e:c[i]? =some c[i+1]
  ·obtain ⟨h2,h3⟩:=List.getElem?_eq_some_iff.1 e;obtain ⟨j,h4,h5⟩:=xV i h2 (by rw [h3];exact h);exact ⟨j,by omega,h5⟩
  ·refine ⟨i+1,Nat.le_refl _,?_⟩;unfold M1;rw [List.getElem?_eq_getElem hi];simp only [h,Nat.add_sub_cancel];simp [e]
theorem xH {me:List Gp} {last fm:Int} {c:List Gp} {j:Nat} (hj:M1 c last j=true):∀n,j<n→L2 me last fm c n≠[]
 | 0,h=>absurd h (Nat.not_lt_zero _)
 | n+1,h=>by
  rw [L2];by_cases e:j=n
  ·subst e;rw [if_pos hj];simp
  ·have:=xH (me:=me) (fm:=fm) hj n (by omega);simp [this]
theorem x7 {bag:List Int} {c:List Gp} (h:wX bag c) {last:Nat} (h0:0<bag.getD last 0):∃j,j<c.length∧M1 c last j=true:=by
 obtain ⟨g,hg,hp⟩:=Mu (show 0<B7 c last by rw [h.ct];exact h0);obtain ⟨i,hi,rfl⟩:=List.mem_iff_getElem.1 hg;have hm:(last:Int)∈AI c[i].wh c[i].kd:=by
  unfold Di Cz at hp;exact List.count_pos_iff.1 (by omega)
 obtain ⟨j,h1,h2⟩:=xV (last:=last) i hi (List.any_eq_true.2 ⟨_,hm,by simp⟩);exact ⟨j,by omega,h2⟩
def xK (s:AL) (l:List Fm) (h:Hd):List (Int×List Gp):=wY (Hf s h) h.me l l.length
theorem xX {s:AL} {l:List Fm} {h:Hd} (hf:A6 s l=0) (hU:Am s h=true) {k:Nat} (hk:k<h.bag.length) (h0:h.bag.getD k 0≠0):(tk (Mz s l h k)).map wL=xK s l h:=by
 have ho:=Pt hU;have hfo:=(Ht hf).2.2;have ha:RJ s h l k=true:=by
  unfold RJ Ch;have:Ag s h=0:=by unfold Am at hU;simp at hU;exact hU.1
  rw [hf,this,hU];simp;exact ⟨hk,h0⟩
 unfold Mz GI;rw [if_pos ha];obtain ⟨b1,b2,b3⟩:=Mx ho.1.va ho.1.cn;refine (xU (fun f hm=> ?_) l.length).1;obtain ⟨h1,h2⟩:=yD (h:=h) (hfo f hm) hU;refine ⟨h1,fun c hc fm=> ?_⟩;have:=(b1 k).1;obtain ⟨j,j1,j2⟩:=x7 (h2 c hc) (last:=k) (by omega);exact xH j2 _ j1
theorem wW {A:Fm→List (List Gp)} {me:List Gp} {l:List Fm}:∀n,(0<(wY A me l n).length↔∃k,k<n∧∃f,l[k]? =some f∧0<(A f).length)
 | 0=>by simp [wY]
 | n+1=>by
  have ih:=wW (A:=A) (me:=me) (l:=l) n;rw [wY,List.length_append];constructor
  ·intro h;by_cases h1:0<(wY A me l n).length
   ·obtain ⟨k,hk,h2⟩:=ih.1 h1;exact ⟨k,by omega,h2⟩
   ·cases hf:l[n]? with
    | none=>rw [hf] at h;simp at h;omega
    | some f=>rw [hf] at h;simp at h;exact ⟨n,by omega,f,hf,by omega⟩
  ·rintro ⟨k,hk,f,hf,h0⟩;by_cases hkn:k<n
   ·have:=ih.2 ⟨k,hkn,f,hf,h0⟩;omega
   ·obtain rfl:k=n:=by omega
    rw [hf];simp;omega
theorem xZ {s:AL} {l:List Fm} {h:Hd} (hf:A6 s l=0) (hU:Am s h=true):Ug s l h=decide (0<(xK s l h).length):=by
 have:Ag s h=0:=by unfold Am at hU;simp at hU;exact hU.1
 unfold Ug Dn Ch xK GZ;rw [hf,this,hU,Bool.eq_iff_iff,decide_eq_true_eq,wW];simp only [decide_true,Bool.true_and,List.any_eq_true,decide_eq_true_eq];constructor
 ·rintro ⟨f,hm,h0⟩;obtain ⟨k,hk,rfl⟩:=List.mem_iff_getElem.1 hm;exact ⟨k,hk,_,List.getElem?_eq_getElem hk,h0⟩
 ·rintro ⟨k,hk,f,hf,h0⟩;exact ⟨f,List.mem_of_getElem? hf,h0⟩
end Go.Proofs.YthblfhgofopcaaaGreat

namespace Go.Proofs.YthblfhgofopcaaaGreat
open Go.RowKit
set_option maxRecDepth 100000
set_option maxHeartbeats 2000000
theorem xY (a b:Gp):Uv a b=decide (C6 a b= -1):=by
 have h:=A2 a b;unfold Uv;rw [Bool.eq_iff_iff];simp;omega
theorem wS (a b:List Gp) (h1:a.length≤1000000) (h2:b.length≤1000000):AM Tryz.prog 103 [AX false a,AX false b] (I (wK a b)):=by
 refine zb Tryz.ntmps103 ?_;let tb:=oT;let lv:=jG;(repeat' first | refine zQ ?_ | (refine zN ?_;intro K hC hK) | (refine zM ?_;try clear hK hC K) | (refine zC ?_ ?_<;>intro hb) | (refine zK ?_;intro Jo JU JC AH AJ AG))
 refine Ab (min a.length b.length) (fun k σ=>wK a b=wK (a.drop k) (b.drop k)∧σ=⟨900,[(0,AX false a),(1,AX false b),(5,I k)],[]⟩) [] [] 0 [0,1,5] 900 zf zf ⟨rfl,by exact zV⟩ ?_;rintro k σ' hk ⟨hR,rfl⟩ J hcJ hJ;by_cases h:k<a.length∧k<b.length
 ·obtain ⟨ha,hb⟩:=h;have hd:=xD a b ha hb;obtain ⟨x,hx⟩:∃x,a[k]=x:=⟨_,rfl⟩;obtain ⟨z,hz⟩:∃z,b[k]=z:=⟨_,rfl⟩;rw [hx,hz] at hd;have g:=A2 x z;have g2:=Gt x z;have C1:=Re x z;have C2:=Re z x;rw [xY] at C1 C2;rcases g with ⟨g,_⟩ | ⟨g,_⟩ | ⟨g,_⟩
  ·rw [decide_eq_true g] at C1;rw [hR,hd,if_neg (by omega),g];(have fa:=(And.intro hx hz);(repeat' first | refine zS C1 ?_ | refine zQ ?_ | (refine zN ?_;intro K hC hK) | (refine zM ?_;try clear hK hC K) | (refine zC ?_ ?_<;>intro hb) | (refine zK ?_;intro Jo JU JC AH AJ AG))<;>(try clear fa))
   refine Aa [] ?_ ?_<;>(first | exact AK | refine zE ?_)
  ·rw [decide_eq_false (by omega)] at C1 C2;(have fa:=(And.intro hx hz);(repeat' first | refine zS C1 ?_ | refine zS C2 ?_ | refine zQ ?_ | (refine zN ?_;intro K hC hK) | (refine zM ?_;try clear hK hC K) | (refine zC ?_ ?_<;>intro hb) | (refine zK ?_;intro Jo JU JC AH AJ AG))<;>(try clear fa))
   exact hJ _ (by omega) ⟨by rw [hR,hd,if_pos g],by exact zV⟩
  ·rw [decide_eq_false (by omega)] at C1;rw [decide_eq_true (by omega)] at C2;rw [hR,hd,if_neg (by omega),g];(have fa:=(And.intro hx hz);(repeat' first | refine zS C1 ?_ | refine zS C2 ?_ | refine zQ ?_ | (refine zN ?_;intro K hC hK) | (refine zM ?_;try clear hK hC K) | (refine zC ?_ ?_<;>intro hb) | (refine zK ?_;intro Jo JU JC AH AJ AG))<;>(try clear fa))
   refine Aa [] ?_ ?_<;>(first | exact AK | refine zE ?_)
 ·have he:=xL a b h (by omega) (by omega);(repeat' first | refine zQ ?_ | (refine zN ?_;intro K hC hK) | (refine zM ?_;try clear hK hC K) | (refine zC ?_ ?_<;>intro hb) | (refine zK ?_;intro Jo JU JC AH AJ AG))
  all_goals
   refine Aa [] ?_ ?_<;>(first | exact AK | refine zE ?_);rw [hR,he]
theorem wV (l:List Rg) (h0:l.length≤1000000000000) (h:∀r∈l,r.gs.length≤1000000):AM Tryz.prog 38 [N0 false l] (N0 false (tk l)):=by
 refine E3 ?_;refine zb Tryz.ntmps38 ?_;let tb:=vE;let lv:=qO;(repeat' first | refine zQ ?_ | (refine zN ?_;intro K hC hK) | (refine zM ?_;try clear hK hC K) | (refine zC ?_ ?_<;>intro hb) | (refine zK ?_;intro Jo JU JC AH AJ AG))
 refine A8 (BY 3 500 0 3 (by rfl) (by rfl)) (α:=Nat×Nat) (fun a=>[(0,N0 false l),(3, .rsl 0 a.2 0 (wM l a.1).length),(4,I a.1)]) (fun a=>[(0, .arr a.2 3 ((wM l a.1).map (Hi false)))])
  (fun a=>l.length-a.1) (fun a=>a.1≤l.length) [(500,0)] [(0,0)] 1 [0,3,4] 900 zf zf (0,0) (Nat.zero_le _) (by (have fa:=(And.intro @Dg.eq_1 (And.intro (And.intro @Ci.eq_1 @Ci.eq_2) (And.intro @wM.eq_1 @wM.eq_2)));exact CZ)) ?_
 rintro ⟨k,g⟩ hk J hcJ hJ;dsimp only at hk hJ ⊢;by_cases hlt:k<l.length
 ·have hst:wM l (k+1)=wM l k++if wN (if k=0 then none else l[k-1]?) l[k]=true then [l[k]] else []:=by
   rw [wM,List.getElem?_eq_getElem hlt]
  have hln:=wR l k;obtain ⟨T,hT⟩:∃T,wM l k=T:=⟨_,rfl⟩;rw [hT] at hst hln ⊢;have hTT:T.take T.length=T:=List.take_length;obtain ⟨r,hr⟩:∃r,l[k]=r:=⟨_,rfl⟩;have hrl:=h r (by rw [←hr];exact List.getElem_mem hlt);rw [hr] at hst;have hx:AV.agg [I r.fm,AX false r.gs,I r.at_]=Hi false r:=rfl;by_cases h0:k=0
  ·rw [if_pos h0,if_pos (show wN none r=true from rfl)] at hst;(have fa:=(And.intro hr (And.intro hTT hx));(repeat' first | refine zQ ?_ | (refine zN ?_;intro K hC hK) | (refine zM ?_;try clear hK hC K) | (refine zC ?_ ?_<;>intro hb) | (refine zK ?_;intro Jo JU JC AH AJ AG))<;>(try clear fa))
   exact hJ _ (k+1,g+1) (by dsimp only;omega) (by dsimp only;omega) (by (have fa:=(And.intro hst (And.intro @List.length_append.{0} (And.intro hx hTT)));exact C8))
  ·obtain ⟨p,hp⟩:∃p,l[k-1]'(by omega)=p:=⟨_,rfl⟩;have hpl:=h p (by rw [←hp];exact List.getElem_mem _);rw [if_neg h0,List.getElem?_eq_getElem (by omega),hp] at hst;have CC:=wS r.gs p.gs hrl hpl;have hs:=(wQ r.gs p.gs).1;obtain ⟨d,hd⟩:∃d,wK r.gs p.gs=d:=⟨_,rfl⟩;rw [hd] at CC hs;by_cases hf:r.fm=p.fm
   ·by_cases hg:d=0
    ·have hn:wN (some p) r=false:=by simp [wN,hf,hs.1 hg]
     rw [hn,if_neg (by simp),List.append_nil] at hst;(have fa:=(And.intro hr (And.intro hp (And.intro hf @bne_self_eq_false.{0})));(repeat' first | refine zS CC ?_ | refine zQ ?_ | (refine zN ?_;intro K hC hK) | (refine zM ?_;try clear hK hC K) | (refine zC ?_ ?_<;>intro hb) | (refine zK ?_;intro Jo JU JC AH AJ AG))<;>(try clear fa))
     exact hJ _ (k+1,g) (by dsimp only;omega) (by dsimp only;omega) (by (have fa:=(And.intro hst hTT);exact C8))
    ·have hn:wN (some p) r=true:=by simp [wN,hf,mt hs.2 hg]
     rw [hn,if_pos rfl] at hst;(have fa:=(And.intro hr (And.intro hp (And.intro hf (And.intro hTT (And.intro hx @bne_self_eq_false.{0})))));(repeat' first | refine zS CC ?_ | refine zQ ?_ | (refine zN ?_;intro K hC hK) | (refine zM ?_;try clear hK hC K) | (refine zC ?_ ?_<;>intro hb) | (refine zK ?_;intro Jo JU JC AH AJ AG))<;>(try clear fa))
     exact hJ _ (k+1,g+1) (by dsimp only;omega) (by dsimp only;omega) (by (have fa:=(And.intro hst (And.intro @List.length_append.{0} (And.intro hx hTT)));exact C8))
   ·have hn:wN (some p) r=true:=by simp [wN,hf]
    rw [hn,if_pos rfl] at hst;(have fa:=(And.intro hr (And.intro hp (And.intro hTT hx)));(repeat' first | refine zS CC ?_ | refine zQ ?_ | (refine zN ?_;intro K hC hK) | (refine zM ?_;try clear hK hC K) | (refine zC ?_ ?_<;>intro hb) | (refine zK ?_;intro Jo JU JC AH AJ AG))<;>(try clear fa))
    exact hJ _ (k+1,g+1) (by dsimp only;omega) (by dsimp only;omega) (by (have fa:=(And.intro hst (And.intro @List.length_append.{0} (And.intro hx hTT)));exact C8))
 ·obtain rfl:k=l.length:=by omega
  (repeat' first | refine zQ ?_ | (refine zN ?_;intro K hC hK) | (refine zM ?_;try clear hK hC K) | (refine zC ?_ ?_<;>intro hb) | (refine zK ?_;intro Jo JU JC AH AJ AG))
  refine Aa [] ?_ ?_<;>(first | exact AK | refine zE ?_);rfl
theorem xE {s:AL} {l:List Fm} {h:Hd} {k:Nat} (h0:h.bag.getD k 0=0):Mz s l h k=[]:=by
 unfold Mz GI RJ;have:decide (h.bag.getD (k:Int).toNat 0≠0)=false:=by rw [Int.toNat_natCast,h0];rfl
 rw [this,Bool.and_false,if_neg (by simp)]
set_option maxHeartbeats 8000000 in
theorem xM (nums:List Int) (hn:nums.length≤9223372036854775807):AM Tryz.prog 6 [AN false nums] (B true):=by
 refine zb Tryz.ntmps6 ?_;let tb:=yB;let lv:=x8;(repeat' first | refine zQ ?_ | (refine zN ?_;intro K hC hK) | (refine zM ?_;try clear hK hC K) | (refine zC ?_ ?_<;>intro hb) | (refine zK ?_;intro Jo JU JC AH AJ AG))
 (refine zX (tg []) (Tu nums hn) ?_;clear AH AJ AG Jo JU JC);intro xr hxr;have V:=hxr.made.ok;have hxl:=hxr.xl;have hpl:=(A7 V).2.2.2;have hfull:=hxr.full;have hfo:=hxr.fo;have hf1:=hxr.f1;have hf3:=hxr.f3;obtain ⟨y,t,fs,ms,X,g0⟩:=xr;dsimp only at V hxl hpl hfull hfo hf1 hf3 ⊢;have ho:G5 t ⟨X,ms⟩:=DP (by unfold Am at hfull;simp at hfull;exact hfull.1);have hmm:=ho.mm;have hlo:=ho.lo;have hrg:=ho.rg;have hme:=(AU V).me;have hsu3:=(AU V).su3;dsimp only at hmm hrg hlo;have hTX:List.take X.length X=X:=List.take_length;have hk0:∀g∈fs,g.ks.length≤1000000:=fun g hg=>by have:=(hfo g hg).2;omega
 have hff:A6 t fs=0:=xC V (by omega) (by omega) fun f hf=>(hfo f hf).1
 have CU:=Kc t ⟨X,ms⟩ (by dsimp only;omega) (by dsimp only;omega);rw [hfull] at CU;have S:FM t fs ⟨X,ms⟩:=⟨hk0,by omega,by omega,by dsimp only;omega,by dsimp only;omega⟩;have CW:=Fw S;have hw:=xZ hff hfull;have htk:=fun (k:Nat) (hk:k<X.length) (h0:X.getD k 0≠0)=>xX (h:=⟨X,ms⟩) hff hfull hk h0
 obtain ⟨ways,hways⟩:∃ways,xK t fs ⟨X,ms⟩=ways:=⟨_,rfl⟩;rw [hways] at hw htk;obtain ⟨w,hww⟩:∃w,Ug t fs ⟨X,ms⟩=w:=⟨_,rfl⟩;rw [hww] at CW hw;clear hxr hfull ho hways hww;(have fa:=hTX;(repeat' first | refine zS CW ?_ | refine zQ ?_ | (refine zN ?_;intro K hC hK) | (refine zM ?_;try clear hK hC K) | (refine zC ?_ ?_<;>intro hb) | (refine zK ?_;intro Jo JU JC AH AJ AG))<;>(try clear fa))
 refine At (α:=Bool×List Rg×Nat) (fun a=>[(4, .ref 0 0 0 0),(5,Bh false fs),(6, .ref 1 0 0 0),(7,B w),(8,N0 false a.2.1),(9,B a.1),(10,I a.2.2)]) (fun _=>[(0, .arr 0 9 [AO t]),(1, .arr 0 2 [.agg [AN true X,AX false ms]])])
  (fun a=>X.length-a.2.2) (fun a=>a.2.2≤X.length∧(a.1=true↔∃j,j<a.2.2∧X.getD j 0≠0)∧(a.1=true→a.2.1.map wL=ways)) [(128,0),(144,1)] [(0,0),(1,1)] 1 [4,5,6,7,8,9,10] 900 zf zf (false,[],0) ⟨Nat.zero_le _,by simp,by simp⟩ (by (have fa:=hTX;exact CZ)) ?_
 rintro ⟨b,F,k⟩ ⟨hk,hb,hF⟩ J hcJ hJ;dsimp only at hk hb hF hJ ⊢;by_cases hlt:k<X.length
 ·have P1:=wU k S;obtain ⟨p1,p2⟩:=SA (s:=t) (l:=fs) (h:=⟨X,ms⟩) k (by omega) (by dsimp only;omega);have qPT:=wV _ p1 p2;obtain ⟨z,hz⟩:∃z,X[k]=z:=⟨_,rfl⟩;have hg:X.getD k 0=z:=by simp [hlt,hz]
  by_cases h0:z=0
  ·subst h0;rw [xE (by exact hg)] at P1 qPT;rw [show tk []=[] from rfl] at qPT;have he:(∃j,j<k+1∧X.getD j 0≠0)↔∃j,j<k∧X.getD j 0≠0:=by
    constructor
    ·rintro ⟨j,h1,h2⟩;by_cases e:j=k
     ·subst e;exact absurd hg h2
     ·exact ⟨j,by omega,h2⟩
    ·rintro ⟨j,h1,h2⟩;exact ⟨j,by omega,h2⟩
   (have fa:=(And.intro hz hTX);(repeat' first | refine zS P1 ?_ | refine zS qPT ?_ | refine zQ ?_ | (refine zN ?_;intro K hC hK) | (refine zM ?_;try clear hK hC K) | (refine zC ?_ ?_<;>intro hb) | (refine zK ?_;intro Jo JU JC AH AJ AG))<;>(try clear fa))
   exact hJ _ (b,F,k+1) (by dsimp only;omega) ⟨by dsimp only;omega,by dsimp only;rw [he];exact hb,hF⟩ (by (have fa:=hTX;exact CZ))
  ·have hkw:=htk k hlt (by rw [hg];exact h0);have he:∃j,j<k+1∧X.getD j 0≠0:=⟨k,by omega,by rw [hg];exact h0⟩;obtain ⟨RR,hRR⟩:∃RR,Mz t fs ⟨X,ms⟩ k=RR:=⟨_,rfl⟩;rw [hRR] at P1 qPT hkw p1 p2;have hKm:=fun r hr=>p2 r (wZ RR RR.length r hr)
   have hKl:=wR RR RR.length;have hKe:wM RR RR.length=tk RR:=rfl;rw [hKe] at hKl;obtain ⟨kk,hKK⟩:∃kk,tk RR=kk:=⟨_,rfl⟩;rw [hKK] at qPT hkw hKl;have hKm:∀r∈kk,r.gs.length≤1000000:=fun r hr=>hKm r (by rw [hKe,hKK];exact hr)
   clear hKK hKe hRR p2;cases b with
   | false =>
    have hQ:kk.map wL=kk.map wL:=rfl;have hl1:kk.length=ways.length:=by rw [←hkw,List.length_map]
    have hl2:(kk).length=kk.length:=by simpa using congrArg List.length hQ
    rcases (show (w=true∧0<kk.length)∨(w=false∧kk.length=0) by
     by_cases h:0<kk.length
     ·exact .inl ⟨by rw [hw,←hl1,decide_eq_true h],h⟩
     ·exact .inr ⟨by rw [hw,←hl1,decide_eq_false h],by omega⟩) with ⟨hw1,hkl⟩ | ⟨hw1,hkl⟩
    all_goals
     rw [hw1] at hJ ⊢;clear hw hw1;(have fa:=(And.intro hz (And.intro hTX @bne_self_eq_false.{0}));(repeat' first | refine zS P1 ?_ | refine zS qPT ?_ | refine zQ ?_ | (refine zN ?_;intro K hC hK) | (refine zM ?_;try clear hK hC K) | (refine zC ?_ ?_<;>intro hb) | (refine zK ?_;intro Jo JU JC AH AJ AG))<;>(try clear fa))
     refine Ab kk.length (fun i σ=>σ=⟨1900,[(4, .ref 0 0 0 0),(5,Bh false fs),(6, .ref 1 0 0 0),(7,B _),(8,N0 false (kk)),(9,B true),(10,I k),(11,N0 false kk),(12,I i)],[(0, .arr 0 9 [AO t]),(1, .arr 0 2 [.agg [AN true X,AX false ms]])]⟩) [(0,0),(1,1)] [(0,0),(1,1)] 0 [4,5,6,7,8,9,10,11,12] 1900 zf zf (by exact zV) ?_;rintro i σ'' hi rfl J2 hcJ2 hJ2;by_cases hli:i<kk.length
     ·obtain ⟨r1,hr1⟩:∃r,kk[i]=r:=⟨_,rfl⟩;obtain ⟨r2,hr2⟩:∃r,(kk)[i]'(by omega)=r:=⟨_,rfl⟩;have hkr:=hKm r1 (by rw [←hr1];exact List.getElem_mem hli);have e1:(kk.map wL)[i]? =some (wL r1):=by rw [List.getElem?_map,List.getElem?_eq_getElem hli,hr1];rfl
      have e2:((kk).map wL)[i]? =some (wL r2):=by rw [List.getElem?_map,List.getElem?_eq_getElem (by omega),hr2];rfl
      have hky:wL r2=wL r1:=by rw [hQ,e1] at e2;exact (Option.some.inj e2).symm
      clear e1 e2;have CG:=Ku r1.gs r2.gs hkr;obtain ⟨f1,g1,a1⟩:=r1;obtain ⟨f2,g2,a2⟩:=r2;simp only [wL,Prod.mk.injEq] at hky;obtain ⟨rfl,rfl⟩:=hky;dsimp only at CG;rw [decide_eq_true rfl] at CG;(have fa:=(And.intro hr1 (And.intro hr2 @bne_self_eq_false.{0}));(repeat' first | refine zS CG ?_ | refine zQ ?_ | (refine zN ?_;intro K hC hK) | (refine zM ?_;try clear hK hC K) | (refine zC ?_ ?_<;>intro hb) | (refine zK ?_;intro Jo JU JC AH AJ AG))<;>(try clear fa))
      exact hJ2 _ hli (by exact zV)
     ·obtain rfl:i=kk.length:=by omega
      (repeat' first | refine zQ ?_ | (refine zN ?_;intro K hC hK) | (refine zM ?_;try clear hK hC K) | (refine zC ?_ ?_<;>intro hb) | (refine zK ?_;intro Jo JU JC AH AJ AG))
      exact hJ _ (true,kk,k+1) (by dsimp only;omega) ⟨by dsimp only;omega,by simp only [true_iff];exact he,fun _=>by dsimp only;rw [hQ,hkw]⟩ (by exact C8)
   | true =>
    have hQ:F.map wL=kk.map wL:=by rw [hF rfl,hkw]
    have hl1:kk.length=ways.length:=by rw [←hkw,List.length_map]
    have hl2:(F).length=kk.length:=by simpa using congrArg List.length hQ
    rcases (show (w=true∧0<kk.length)∨(w=false∧kk.length=0) by
     by_cases h:0<kk.length
     ·exact .inl ⟨by rw [hw,←hl1,decide_eq_true h],h⟩
     ·exact .inr ⟨by rw [hw,←hl1,decide_eq_false h],by omega⟩) with ⟨hw1,hkl⟩ | ⟨hw1,hkl⟩
    all_goals
     rw [hw1] at hJ ⊢;clear hw hw1;(have fa:=(And.intro hz (And.intro hTX @bne_self_eq_false.{0}));(repeat' first | refine zS P1 ?_ | refine zS qPT ?_ | refine zQ ?_ | (refine zN ?_;intro K hC hK) | (refine zM ?_;try clear hK hC K) | (refine zC ?_ ?_<;>intro hb) | (refine zK ?_;intro Jo JU JC AH AJ AG))<;>(try clear fa))
     refine Ab kk.length (fun i σ=>σ=⟨1900,[(4, .ref 0 0 0 0),(5,Bh false fs),(6, .ref 1 0 0 0),(7,B _),(8,N0 false (F)),(9,B true),(10,I k),(11,N0 false kk),(12,I i)],[(0, .arr 0 9 [AO t]),(1, .arr 0 2 [.agg [AN true X,AX false ms]])]⟩) [(0,0),(1,1)] [(0,0),(1,1)] 0 [4,5,6,7,8,9,10,11,12] 1900 zf zf (by exact zV) ?_;rintro i σ'' hi rfl J2 hcJ2 hJ2;by_cases hli:i<kk.length
     ·obtain ⟨r1,hr1⟩:∃r,kk[i]=r:=⟨_,rfl⟩;obtain ⟨r2,hr2⟩:∃r,(F)[i]'(by omega)=r:=⟨_,rfl⟩;have hkr:=hKm r1 (by rw [←hr1];exact List.getElem_mem hli);have e1:(kk.map wL)[i]? =some (wL r1):=by rw [List.getElem?_map,List.getElem?_eq_getElem hli,hr1];rfl
      have e2:((F).map wL)[i]? =some (wL r2):=by rw [List.getElem?_map,List.getElem?_eq_getElem (by omega),hr2];rfl
      have hky:wL r2=wL r1:=by rw [hQ,e1] at e2;exact (Option.some.inj e2).symm
      clear e1 e2;have CG:=Ku r1.gs r2.gs hkr;obtain ⟨f1,g1,a1⟩:=r1;obtain ⟨f2,g2,a2⟩:=r2;simp only [wL,Prod.mk.injEq] at hky;obtain ⟨rfl,rfl⟩:=hky;dsimp only at CG;rw [decide_eq_true rfl] at CG;(have fa:=(And.intro hr1 (And.intro hr2 @bne_self_eq_false.{0}));(repeat' first | refine zS CG ?_ | refine zQ ?_ | (refine zN ?_;intro K hC hK) | (refine zM ?_;try clear hK hC K) | (refine zC ?_ ?_<;>intro hb) | (refine zK ?_;intro Jo JU JC AH AJ AG))<;>(try clear fa))
      exact hJ2 _ hli (by exact zV)
     ·obtain rfl:i=kk.length:=by omega
      (repeat' first | refine zQ ?_ | (refine zN ?_;intro K hC hK) | (refine zM ?_;try clear hK hC K) | (refine zC ?_ ?_<;>intro hb) | (refine zK ?_;intro Jo JU JC AH AJ AG))
      exact hJ _ (true,F,k+1) (by dsimp only;omega) ⟨by dsimp only;omega,by simp only [true_iff];exact he,fun _=>by dsimp only;rw [hQ,hkw]⟩ (by exact C8)
 ·obtain rfl:k=X.length:=by omega
  have hb1:b=true:=hb.2 (by
   rcases Classical.em (∃j,j<X.length∧X.getD j 0≠0) with h | h
   ·exact h
   ·have:X.sum=0:=OS fun i=>by
     by_cases hi:i<X.length
     ·exact Classical.not_not.1 fun h2=>h ⟨i,hi,h2⟩
     ·simp [hi]
    omega)
  subst hb1;(have fa:=hTX;(repeat' first | refine zS CU ?_ | refine zS Gy ?_ | refine zQ ?_ | (refine zN ?_;intro K hC hK) | (refine zM ?_;try clear hK hC K) | (refine zC ?_ ?_<;>intro hb) | (refine zK ?_;intro Jo JU JC AH AJ AG))<;>(try clear fa))
  refine Aa [] ?_ ?_<;>(first | exact AK | refine zE ?_)
theorem wT (v0:Value) (nums:List Int) (W:World) (w0:BO W v0 nums) (_x0:∀z∈nums,(Lit.int .i64 z).wf=true) :
  Calls Tryz.prog 6 #[v0] W (OF W (.bool true)):=by
 refine T0 (xM nums (NA w0)) ⟨rfl,fun i x y hx hy=> ?_⟩;match i,hx,hy with
 | 0,hx,hy=>simp at hx hy;subst hx hy;exact ER w0
 | n+1,hx,hy=>simp at hx
end Go.Proofs.YthblfhgofopcaaaGreat
