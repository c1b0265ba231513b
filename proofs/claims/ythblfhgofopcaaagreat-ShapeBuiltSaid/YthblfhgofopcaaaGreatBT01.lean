/-
  Parts of the proof: FrameQ, Frame1Q, FrmSQ, FrmHQ, Ext, RdP, MoreL, RareL, ApL, TakeL, TakeW, BltL, WBuilt.
-/
import Derived.Test.YthblfhgofopcaaaGreatRows
import Derived.Test.YthblfhgofopcaaaGreatSH01
import Derived.ProofKit
import Derived.OpenShut
import Derived.ShutString
import Derived.ChangeOld
import Derived.Below
import Derived.Lib.SmallJoins
import Derived.Deep.Slices
import Derived.Test.YthblfhgofopcaaaGreatSH15
import Derived.Test.YthblfhgofopcaaaGreatSH17
import Derived.Test.YthblfhgofopcaaaGreatSH09
import Derived.Deep.Fields
import Derived.ChangeSame
import Derived.Test.YthblfhgofopcaaaGreatSH08
import Derived.Test.YthblfhgofopcaaaGreatSH13
import Derived.Test.YthblfhgofopcaaaGreatSH14
import Derived.Test.YthblfhgofopcaaaGreatSH46
import Derived.Test.YthblfhgofopcaaaGreatSH41
import Derived.Test.YthblfhgofopcaaaGreatSH42
set_option linter.all false
namespace Go.Proofs.YthblfhgofopcaaaGreat
open Go.RowKit Go.ChangeShapes Go.WideShapes Go.ChangeAt
theorem Rb:ownKnob Tryz.prog.godebug=none:=by kernel_rfl
theorem FH:laidOutB Tryz.prog=true:=by kernel_rfl
theorem WM:Tryz.prog.cellsOf 3=1:=by kernel_rfl
theorem OA {w:World} {x:Addr} {l c:Nat} {zs:List Int} (hl:l≤c) (hm:c≤maxLen) (hz:zs.length=c) (hcell:∀i,i<zs.length→w.cell? (x.add i)=some (.int .i64 (zs.getD i 0))) :
  BO w (.slice (some x) l c) (zs.take l):=by
 refine ⟨some x,c,by rw [List.length_take,Nat.min_eq_left (by omega)],by rw [List.length_take];omega,hm,fun i u hu=> ?_⟩;have hi:=(List.getElem?_eq_some_iff.1 hu).1;simp only [Ke,List.length_map,List.length_take] at hi;have hc:=hcell i (by omega);refine ⟨x,rfl,?_,?_⟩
 ·have:=World.block_lt_of_cell? w _ hc;rwa [Iq] at this
 ·rw [hc,←hu];have h2:i<zs.length:=by omega
  simp [List.getD,h2,show i<l by omega]
section
variable {H:Type} {enc:TypeId×Value→H} {W:World} {spare:Nat→Bool} {held:Bool}
theorem DE {t:TypeId} {fuel:Nat} {v:Value} {x:DataW H×List MemPlace} (ht:Tryz.prog.underlying t=some (.slice 3)) (h:DataW.trod enc Tryz.prog W 0 spare held fuel t [v]=some x) (hs:spare=fun _=>true) :
  ∃zs,BO W v zs∧∀z∈zs,(Lit.int .i64 z).wf=true:=by
 subst hs;rcases open_ints ht Tryz.underlying3 WM h with ⟨hcs,_⟩ | ⟨a,l,c,zs,hcs,_,hl,hm,hz,_,hcell,hwz⟩
 ·simp at hcs;subst hcs;exact ⟨[],BO.nil,by simp⟩
 ·simp at hcs;subst hcs;exact ⟨zs.take l,OA hl hm (by simpa using hz) hcell,fun z hz=>hwz z (List.mem_of_mem_take hz)⟩
end
end Go.Proofs.YthblfhgofopcaaaGreat

namespace Go.Proofs.YthblfhgofopcaaaGreat
open Go.Joins Go.ChangeShapes Go.WideShapes Go.RowKit Go.Deep
set_option maxRecDepth 100000
def cI (W:World):Cx:=⟨W,fun _=>0,fun _=>false,fun _=>False,fun _=>True,W.heap.size⟩
theorem jU (W:World):BH (cI W) (lk [] .nil):=⟨(fun r g sz es h=>by cases h),(fun r g sz es h=>by cases h),(fun r r' g g' sz sz' es es' h=>by cases h)⟩
theorem WA (W:World) {b:Nat} (hb:b<W.heap.size):Dx (cI W) (lk [] .nil) false b:=⟨hb,(by rintro ⟨r,g,sz,es,h,_⟩;cases h), .inr (.inr ⟨rfl,trivial⟩)⟩
theorem Io {W:World} {a:Addr} {u:Value} (h:W.cell? a=some u):a=⟨a.block,a.off,none⟩:=by
 obtain ⟨b,o,sp⟩:=a;cases sp with
 | none=>rfl
 | some k =>
  unfold World.cell? at h;split at h<;>simp at h
theorem ER {W:World} {v:Value} {zs:List Int} (h:BO W v zs):AS (cI W) (lk [] .nil) (AN false zs) v:=by
 obtain ⟨A,c,rfl,h1,h2,h3⟩:=h;cases zs with
 | nil=>exact .slE false 1 A c h2
 | cons z l =>
  obtain ⟨ad,rfl,hb,hc⟩:=h3 0 (.int .i64 z) rfl;have e0:ad.add 0=ad:=rfl;rw [e0] at hc;obtain ⟨b,o,rfl⟩:∃b o,ad=⟨b,o,none⟩:=⟨_,_,Io hc⟩;have hl:(z::l).length=((z::l).map I).length:=by simp
  rw [hl];have dest:∀(i:Nat) (e:AV),((z::l).map I)[i]? =some e→∃y,(z::l)[i]? =some y∧e=I y:=fun i e he=>by
   rw [List.getElem?_map] at he;cases hz:(z::l)[i]? with
   | none=>rw [hz] at he;cases he
   | some y =>
    rw [hz] at he;injection he with he
    exact ⟨y,rfl,he.symm⟩
  refine .sl false 1 ((z::l).map I) b o c (fun i _=> .int .i64 ((z::l).getD i 0)) (by rw [List.length_map];exact h1) h2 (WA W hb) (fun i e he=> ?_) (fun i e j x he hx=> ?_) (fun i e j x he hx=> ?_)
  ·obtain ⟨y,hz,rfl⟩:=dest i e he;rfl
  ·obtain ⟨y,hz,rfl⟩:=dest i e he;obtain ⟨ad',e',hb',hc'⟩:=h3 i (.int .i64 y) (by rw [Ke,List.getElem?_map,hz];rfl);injection e' with e'
   subst e';have hj:j=0:=by
    cases j with
    | zero=>rfl
    | succ j=>simp [AV.cs,I] at hx
   subst hj;rw [Addr.add_lit] at hc';show W.cell? ⟨b,o+i*1+0,none⟩=_;rw [List.getD_eq_getElem?_getD,hz];simpa using hc'
  ·obtain ⟨y,hz,rfl⟩:=dest i e he;have hj:j=0:=by
    cases j with
    | zero=>rfl
    | succ j=>simp [AV.cs,I] at hx
   subst hj;simp [AV.cs,I] at hx;subst hx;rw [List.getD_eq_getElem?_getD,hz];exact .v _
theorem T0 {f:Nat} {ys:List AV} (h:AM Tryz.prog f ys (B true)) {W:World} {vals:Array Value} (hr:QX (cI W) (lk [] .nil) ys vals):Calls Tryz.prog f vals W (OF W (.bool true)):=by
 refine (h.2 (cI W) vals rfl (jU W) hr).mono ?_;rintro e w' ⟨v,x,hl,c',rfl,rfl,⟨rfl,rfl⟩,k,_,rv⟩;have:=As rv;subst this;refine ⟨rfl,?_⟩;exact ⟨k.os,k.tape,k.output,k.size,fun b hb=>k.blk b hb (by rintro ⟨r,g,sz,es,h,_⟩;cases h)⟩
end Go.Proofs.YthblfhgofopcaaaGreat

namespace Go.Proofs.YthblfhgofopcaaaGreat
open Go.Joins Go.ChangeShapes Go.WideShapes Go.RowKit Go.Deep Go.ChangeAt
theorem NA {W:World} {v:Value} {zs:List Int} (h:BO W v zs):zs.length≤9223372036854775807:=by
 obtain ⟨_,_,_,h1,h2,_⟩:=h;unfold maxLen at h2;omega
end Go.Proofs.YthblfhgofopcaaaGreat

namespace Go.Proofs.YthblfhgofopcaaaGreat
open Go.RowKit
set_option maxRecDepth 100000
section
variable {inv:Nat→Option Nat} {f:Bool}
@[go_sem] theorem xQ (m:Rg):(Hi true m).allT=true:=by simp only [Hi,AV.allT,allTL,iU];rfl
end
def xV:List (Nat×List Nat):=[(0,[0]),(1,[3]),(2,[3,4]),(3,[4,5,6,7]),(4,[4,5,6,29]),(5,[2]),(6,[4,5,6,8]),(7,[4,5,6,8,9]),(8,[4,5,6,8,9,35]),(9,[4,5,6,8,9]),(10,[4,5,6,8,9,10]),(11,[4,5,6,8,9,10,11]),(12,[4,5,6,8,9,10,11,46]),(13,[4,5,6,8,9,10,11]),(14,[4,5,6,8,9,10,11,74]),(15,[4,5,6,8,9,10,11]),(16,[4,5,6,85]),(17,[2]),(18,[4,5,6,12]),(19,[4,5,6,12,13]),(20,[4,5,6,12,13,90]),(21,[4,5,6,12,13]),(22,[4,5,6,12,13,99]),(23,[4,5,6,12,13]),(24,[4,5,6,12,102]),(25,[2]),(26,[4,5,6,12,14]),(27,[4,5,6,12,14]),(28,[4,5,6,12,14,15]),(29,[4,5,6,12,14,15]),(30,[4,5,6,14,15]),(31,[4,5,6,14,15,16]),(32,[4,5,6,14,15,16,129]),(33,[4,5,6,14,15,16]),(34,[4,5,6,14,15,16,146]),(35,[2]),(36,[4,5,6,14,15,16]),(37,[4,5,6])]
@[go_sem] theorem yC:Tryz.f9.results.toList=[.tmp 2]:=rfl
def x9:List (Nat×List Nat×List Nat):=[(10,[0,2,3,1,4,5],[0,0,0,0,15,31]),(14,[0,1,2,3,4,5,6,7,8,9,10,11,12,13,14,15,16,17,18,19,20,21,22,23,24,25],[0,0,3,7,15,31,0,64,192,0,512,1984,4095,8191,16383,16383,65535,131071,262143,16383,540671,1589247,4194303,16383,16777215,33554431]),(16,[0,1,2,3,5,4,6,7,8],[0,1,3,7,7,7,63,127,255]),(30,[0,1,2,3,4,5,6,7,8,9,10,11],[0,1,0,7,0,16,0,64,240,511,1023,2047]),(34,[0,1,2,3,4,5,6,7,8,9,10,11,12,13,14],[0,0,3,7,15,31,63,63,255,511,63,1087,3135,8191,16383]),(36,[0,1,2,3,4,5,6,7,8,9,10],[0,1,0,0,12,28,63,127,255,511,1023]),(37,[0,1,3,4,2,5,6,7],[0,0,3,0,8,31,63,127])]
set_option maxHeartbeats 2000000
def Ug (s:AL) (l:List Fm) (h:Hd):Bool:=Dn s h (Hf s h) l
structure FM (s:AL) (l:List Fm) (h:Hd):Prop where
 f:∀f∈l,f.ks.length≤1000000
 l:l.length≤1000000
 s:s.su.length≤1000000
 m:h.me.length≤1000000
 b:h.bag.length≤1000000
theorem HW {s:AL} {l:List Fm} {h:Hd} (hf:Ch s l h=true):∀f∈l,Az s f=0:=by
 unfold Ch at hf;simp only [Bool.and_eq_true,decide_eq_true_eq] at hf;exact (Ht hf.1).2.2
theorem Fw {s:AL} {l:List Fm} {h:Hd} (S:FM s l h):AM Tryz.prog 33 [AO s,Bh false l,Cb false h] (B (Ug s l h)) :=
 OD s h (Hf s h) l S.f S.l S.s S.m S.b fun hf hu f hm=>LU s f h (HW hf f hm) hu
def Mz (s:AL) (l:List Fm) (h:Hd) (last:Int):List Rg:=GI s h (Hf s h) l last
@[go_sem] theorem x6 (l:List Rg):allTL (l.map (Hi true))=true:=VX (fun m=>xQ m) l
theorem wP {s:AL} {l:List Fm} {h:Hd} (last:Int) (S:FM s l h):AM Tryz.prog 28 [AO s,Bh false l,Cb false h,I last] (N0 true (Mz s l h last)) :=
 M5 s h (Hf s h) l last S.f S.l S.s S.m S.b fun hf hu f hm=>⟨Nm (HW hf f hm) hu,LU s f h (HW hf f hm) hu⟩
theorem wK {s:AL}:∀{l:List Fm},(∀f∈l,Az s f=0)→El s l=0
 | [],_=>rfl
 | f::l,h=>by
  have h1:=h f (by simp);rw [El,if_neg (by omega),wK fun g hg=>h g (by simp [hg])]
theorem wV {s:AL} {l:List Fm} (hv:AP s=0) (h0:0<l.length) (h8:l.length≤8) (h:∀f∈l,Az s f=0):A6 s l=0:=by
 unfold A6;rw [if_neg (by omega),if_neg (by omega),if_neg (by omega),wK h]
end Go.Proofs.YthblfhgofopcaaaGreat

namespace Go.Proofs.YthblfhgofopcaaaGreat
theorem wU {me:List Gp} {last fm:Int} {c:List Gp}:∀n,∀r∈L2 me last fm c n,∃j,j<n∧M1 c last j=true∧r=⟨fm,me++c,me.length+j⟩
 | 0=>fun r hr=>by cases hr
 | n+1=>fun r hr=>by
  rw [L2] at hr;rcases List.mem_append.1 hr with hr | hr
  ·obtain ⟨j,h1,h2⟩:=wU n r hr;exact ⟨j,by omega,h2⟩
  ·split at hr
   ·rename_i hh;simp at hr;exact ⟨n,by omega,hh,hr⟩
   ·cases hr
theorem xG {A:Fm→List (List Gp)} {me:List Gp} {last:Int} {l:List Fm}:∀n,∀r∈Kn A me last l n,∃(k:Nat) (f:Fm) (c:List Gp) (j:Nat),l[k]? =some f∧c∈A f∧j<c.length∧M1 c last j=true∧r=⟨k,me++c,me.length+j⟩
 | 0=>fun r hr=>by cases hr
 | n+1=>fun r hr=>by
  rw [Kn] at hr;rcases List.mem_append.1 hr with hr | hr
  ·exact xG n r hr
  ·split at hr
   ·cases hr
   ·rename_i f hf;unfold N7 at hr;obtain ⟨c,hc,hr⟩:=List.mem_flatMap.1 hr;obtain ⟨j,h1,h2,h3⟩:=wU _ r hr;exact ⟨n,f,c,j,hf,hc,h1,h2,h3⟩
theorem xK {s:AL} {l:List Fm} {h:Hd} {last:Int}:∀r∈Mz s l h last,∃(k:Nat) (f:Fm) (c:List Gp) (j:Nat),l[k]? =some f∧c∈Hf s h f∧j<c.length∧M1 c last j=true∧r=⟨k,h.me++c,h.me.length+j⟩:=fun r hr=>by
 unfold Mz GI at hr;split at hr
 ·exact xG _ r hr
 ·cases hr
structure wQ (bag:List Int) (c:List Gp):Prop where
 cl:Cl c
 sg:SG c
 ct:∀i,B7 c i=bag.getD i 0
theorem wN (g:Gp) (i:Nat):∀m:Nat,B7 (List.replicate m g) i=m*Di g i
 | 0=>by simp [B7]
 | m+1=>by
  rw [List.replicate_succ,B7,wN g i m];have:((m+1:Nat):Int)=m+1:=by omega
  rw [this,Int.add_mul];omega
theorem xU (k:Int) (i:Nat):Di (gp 5 k) i=if k=(i:Int) then 1 else 0:=by
 show Cz [k] i=_;rw [BW];show Cz [] i+_=_;simp [Cz]
theorem x8 (k:Int) (i:Nat):Di (gp 4 k) i=if k=(i:Int) then 2 else 0:=by
 show Cz [k,k] i=_;rw [BW,BW];show Cz [] i+_+_=_;simp [Cz];split<;>omega
theorem xH {w:Int} {l m:List Gp} {k:Nat} (hl:SG l) (h:∀g∈l,∃j:Nat,j<k∧(g=gp 5 j∨g=gp 4 j)) (hm:∀g∈m,g=gp w k) (hw:w=5∨w=4) (hs:∀g∈l,g.wh=w):SG (l++m):=by
 unfold SG;rw [List.pairwise_append];refine ⟨hl,?_,fun a ha b hb=> ?_⟩
 ·refine List.pairwise_of_forall_mem_list fun a ha b hb=> ?_
  rw [hm a ha,hm b hb,O0];exact Int.le_refl _
 ·obtain ⟨j,hj,e⟩:=h a ha;have h1:=hs a ha;have e2:=hm b hb;have h3:=A2 a b;have h4:b.wh=w:=by rw [e2]
  have h5:b.kd=k:=by rw [e2]
  have h6:a.kd=j:=by rcases e with e | e<;>rw [e]
  omega
theorem wS (bag:List Int):∀k,SG (DH bag k)
 | 0=>List.Pairwise.nil
 | k+1=>by
  rw [DH];refine xH (w:=5) (k:=k) (wS bag k) (fun g hg=> ?_) (fun g hg=>List.eq_of_mem_replicate hg) (.inl rfl) fun g hg=> ?_
  ·obtain ⟨j,hj,e⟩:=UP hg;exact ⟨j,hj, .inl e⟩
  ·obtain ⟨j,_,e⟩:=UP hg;rw [e]
theorem w9 (bag:List Int):∀k,SG (FB bag k)
 | 0=>List.Pairwise.nil
 | k+1=>by
  rw [FB];refine xH (w:=4) (k:=k) (w9 bag k) (fun g hg=> ?_) (fun g hg=>List.eq_of_mem_replicate hg) (.inr rfl) fun g hg=> ?_
  ·obtain ⟨j,hj,e⟩:=Qr hg;exact ⟨j,hj, .inr e⟩
  ·obtain ⟨j,_,e⟩:=Qr hg;rw [e]
theorem wT {bag:List Int} (hb:∀i,0≤bag.getD i 0) (i:Nat):∀k,B7 (DH bag k) i=if i<k then bag.getD i 0 else 0
 | 0=>by simp [DH,B7]
 | k+1=>by
  rw [DH,RC,wT hb i k,wN,xU];have:=hb k;by_cases h:k=i
  ·subst h;rw [if_neg (by omega),if_pos rfl,if_pos (by omega)];omega
  ·rw [if_neg (show ¬(k:Int)=(i:Int) by omega)];by_cases h2:i<k
   ·rw [if_pos h2,if_pos (by omega)];omega
   ·rw [if_neg h2,if_neg (by omega)];omega
theorem xA {bag:List Int} (hb:∀i,0≤bag.getD i 0) (he:∀i,i<bag.length→bag.getD i 0 % 2=0) (i:Nat):∀k,k≤bag.length→B7 (FB bag k) i=if i<k then bag.getD i 0 else 0
 | 0,_=>by simp [FB,B7]
 | k+1,hk=>by
  rw [FB,RC,xA hb he i k (by omega),wN,x8];have:=hb k;have:=he k (by omega);by_cases h:k=i
  ·subst h;rw [if_neg (by omega),if_pos rfl,if_pos (by omega)];omega
  ·rw [if_neg (show ¬(k:Int)=(i:Int) by omega)];by_cases h2:i<k
   ·rw [if_pos h2,if_pos (by omega)];omega
   ·rw [if_neg h2,if_neg (by omega)];omega
theorem xD {bag:List Int} (hb:∀i,0≤bag.getD i 0) (he:∀i,i<bag.length→bag.getD i 0≤2) (i:Nat):∀k,k≤bag.length→B7 (ET bag k) i=if i<k then bag.getD i 0 else 0
 | 0,_=>by simp [ET,B7]
 | k+1,hk=>by
  rw [ET,RC,xD hb he i k (by omega)];have h0:=hb k;have h2:=he k (by omega);have hx:B7 (if bag.getD k 0=1 then [gp 5 k] else if bag.getD k 0=2 then [gp 4 k] else []) i=if k=i then bag.getD k 0 else 0:=by
   by_cases c1:bag.getD k 0=1
   ·rw [if_pos c1];show Di (gp 5 k) i+0=_;rw [xU,c1];by_cases h:k=i
    ·subst h;simp
    ·rw [if_neg (show ¬(k:Int)=(i:Int) by omega),if_neg h];rfl
   ·rw [if_neg c1];by_cases c2:bag.getD k 0=2
    ·rw [if_pos c2];show Di (gp 4 k) i+0=_;rw [x8,c2];by_cases h:k=i
     ·subst h;simp
     ·rw [if_neg (show ¬(k:Int)=(i:Int) by omega),if_neg h];rfl
    ·rw [if_neg c2];show (0:Int)=_;split<;>omega
  rw [hx];by_cases h:k=i
  ·subst h;rw [if_neg (by omega),if_pos rfl,if_pos (by omega)];omega
  ·rw [if_neg h];by_cases h2:i<k
   ·rw [if_pos h2,if_pos (by omega)];omega
   ·rw [if_neg h2,if_neg (by omega)];omega
theorem wW {bag:List Int} (i:Nat):(if i<bag.length then bag.getD i 0 else 0)=bag.getD i 0:=by
 by_cases h:i<bag.length
 ·rw [if_pos h]
 ·rw [if_neg h];simp [h]
theorem xI {bag:List Int} (hb:∀i,0≤bag.getD i 0):wQ bag (Hp bag) :=
 ⟨fun g hg=>by obtain ⟨j,_,e⟩:=UP hg;rw [e],wS bag _,fun i=>by unfold Hp;rw [wT hb,wW]⟩
theorem yA {bag:List Int} (hb:∀i,0≤bag.getD i 0) (he:∀i,i<bag.length→bag.getD i 0 % 2=0):wQ bag (g7 bag) :=
 ⟨fun g hg=>by obtain ⟨j,_,e⟩:=Qr hg;rw [e],w9 bag _,fun i=>by unfold g7;rw [xA hb he i _ (Nat.le_refl _),wW]⟩
theorem xX {bag:List Int} (hb:∀i,0≤bag.getD i 0) (he:∀i,i<bag.length→bag.getD i 0≤2):wQ bag (CX (ET bag bag.length)) :=
 ⟨fun g hg=>by
  obtain ⟨j,_,e⟩:=Rp ((BV _).subset hg)
  rcases e with e | e<;>rw [e],HV _,fun i=>by rw [EK (BV _),xD hb he i _ (Nat.le_refl _),wW]⟩
theorem xF (i:Nat):∀ks,B7 (KZ ks) i=Cz ks i
 | []=>rfl
 | k::ks=>by
  show Di (gp 5 k) i+B7 (KZ ks) i=_;rw [xU,xF i ks,BW];omega
theorem xN:∀{ks:List Int},GR ks→SG (KZ ks)
 | [],_=>List.Pairwise.nil
 | k::ks,h=>by
  have h:=List.pairwise_cons.1 h;refine List.pairwise_cons.2 ⟨fun g hg=> ?_,xN h.2⟩;obtain ⟨z,hz,rfl⟩:=List.mem_map.1 hg;have:=h.1 z hz;have h3:=A2 (gp 5 k) (gp 5 z);dsimp only at h3;omega
theorem x7 {s:AL} {f:Fm} {h:Hd} (hf:Az s f=0) (hU:Am s h=true):SL (Hf s h f)∧∀c∈Hf s h f,wQ h.bag c:=by
 obtain ⟨ho,hsum⟩:=Pt hU;have F:=Nf hf;have V:=AU ho.va;have hme:=V.me;have hco:=V.co;have hmm:=ho.mm;obtain ⟨b1,b2,b3⟩:=Mx ho.va ho.cn;have nw:=F.nw;have hw:=F.wh;unfold Cs at nw;have hr:C7 h.bag.length (AT s):=fun k h=>by have:=Ct h;omega
 have hbg:Bg h.bag.length h.bag:=⟨rfl,fun i=>(b1 i).1⟩;have hb0:∀i,0≤h.bag.getD i 0:=fun i=>(b1 i).1
 have nil:SL ([]:List (List Gp))∧∀c∈([]:List (List Gp)),wQ h.bag c:=⟨List.Pairwise.nil,fun c hc=>by cases hc⟩;have one:∀x,wQ h.bag x→SL [x]∧∀c∈[x],wQ h.bag c:=fun x hx=>⟨List.pairwise_singleton ..,fun c hc=>by simp at hc;subst hc;exact hx⟩
 unfold Hf;by_cases hm:(h.me.length:Int)≤He s f
 ·rw [if_pos hm];unfold QP;have hw' :f.wh=1∨f.wh=2∨f.wh=3∨f.wh=4∨f.wh=5∨f.wh=6:=by omega
  rcases hw' with hw | hw | hw | hw | hw | hw<;>rw [hw]
  ·rw [if_pos rfl];obtain ⟨h1,h2⟩:=Fb hr hbg (f:=20) (by omega);exact ⟨h1,fun c hc=>⟨((h2 c).1 hc).cl,((h2 c).1 hc).sg,((h2 c).1 hc).ct⟩⟩
  ·rw [if_neg (by decide),if_pos rfl];unfold EW;split
   ·exact nil
   ·rename_i hb;refine one _ (yA hb0 fun i hi=> ?_);have e:h.bag.getD i 0=h.bag[i]:=by simp [hi]
    have:Iy f.ag h.bag[i]=false:=by
     cases hc:Iy f.ag h.bag[i] with
     | false=>rfl
     | true=>exact absurd (EX hi hc) hb
    unfold Iy at this;simp only [Bool.or_eq_false_iff,decide_eq_false_iff_not] at this;rw [e];omega
  ·rw [if_neg (by decide),if_neg (by decide),if_pos rfl];unfold I9;split
   ·rename_i hg;have hg:=IV.1 hg;exact one _ (xX hb0 fun i hi=>(hg i hi).2)
   ·exact nil
  ·rw [if_neg (by decide),if_neg (by decide),if_neg (by decide),if_pos rfl];unfold Gm;split
   ·exact one _ (xI hb0)
   ·exact nil
  ·rw [if_neg (by decide),if_neg (by decide),if_neg (by decide),if_neg (by decide),if_pos rfl];have h9:s.su=[9,9,9]:=by
    by_cases h:s.su=[9,9,9]
    ·exact h
    ·exact absurd (.inr (.inr (.inr (.inr (.inl ⟨hw, .inl h⟩))))) nw
   have h27:27≤h.bag.length:=by
    have h1:=F1 ho.va;have h2:=V.wi;have h3:=V.dr;have:AQ s=s.wi+s.dr+27:=by unfold AQ;rw [h9];rfl
    omega
   obtain ⟨S,p1,p2⟩:=Qq (Ln (AT s) 20 JR h.bag);obtain ⟨e,hsl⟩:=YS hr hbg (by omega) (fun w hw=>by
    obtain ⟨a,b,c,rfl,ha,hb,hc⟩:=Gq w hw
    exact ⟨Qf ha hb hc,SW ha hb hc h27⟩) (fun a ha b hb e=>Td a ha b hb e) p1 p2
   refine ⟨hsl,fun x hx=> ?_⟩;rw [←e] at hx;have:=p1.subset hx;unfold Ln at this;obtain ⟨w,hw,hx⟩:=List.mem_flatMap.1 this;obtain ⟨a,b,c,rfl,ha,hb,hc⟩:=Gq w hw;have hin:=SW (n:=h.bag.length) ha hb hc h27;unfold HK at hx;rcases C5 _ h.bag hin hb0 with ⟨h1,h2⟩ | ⟨h1,_⟩
   ·rw [h1] at hx;dsimp only at hx;have hbd:=hbg.dec hin h2;have hsum2:=Ck _ h.bag hin;obtain ⟨l,hl,rfl⟩:=List.mem_map.1 hx;have hx:=((Fb hr hbd (f:=20) (by omega)).2 l).1 hl;have h4:=dM hx;refine ⟨fun g hg=> ?_,?_,fun i=> ?_⟩
    ·rcases List.mem_append.1 hg with hg | hg
     ·exact hx.cl g hg
     ·exact Xx _ g hg
    ·unfold SG;rw [List.pairwise_append];refine ⟨hx.sg,xN (Qf ha hb hc),fun g hg y hy=> ?_⟩;have h5:=h4 g hg;have h6:=gP _ y hy;have h7:=A2 g y;omega
    ·rw [RC,hx.ct,xF,BF _ _ hin];omega
   ·rw [h1] at hx;cases hx
  ·rw [if_neg (by decide),if_neg (by decide),if_neg (by decide),if_neg (by decide),if_neg (by decide)];unfold Ni;split
   ·exact one _ (xI hb0)
   ·exact nil
 ·rw [if_neg hm];exact nil
def yB (p:Option Rg) (r:Rg):Bool:=match p with
 | none=>true
 | some q=>decide (r.fm≠q.fm) || decide (BL r.gs q.gs≠0)
def xY (l:List Rg):Nat→List Rg
 | 0=>[]
 | n+1=>xY l n++match l[n]? with
  | none=>[]
  | some r=>if yB (if n=0 then none else l[n-1]?) r=true then [r] else []
theorem xL (l:List Rg):∀n,(xY l n).length≤n
 | 0=>Nat.le_refl _
 | n+1=>by
  have:=xL l n;rw [xY,List.length_append];have one:∀(b:Bool) (r:Rg),(if b=true then [r] else []).length≤1:=fun b r=>by cases b<;>simp
  cases l[n]? with
  | none=>simp;omega
  | some r =>
   have:=one (yB (if n=0 then none else l[n-1]?) r) r;simp only;omega
def xE (A:Fm→List (List Gp)) (me:List Gp) (l:List Fm):Nat→List (Int×List Gp)
 | 0=>[]
 | n+1=>xE A me l n++match l[n]? with
  | none=>[]
  | some f=>(A f).map fun c=>((n:Int),me++c)
theorem xP {c:List Gp} {last:Int}:∀i,(hi:i<c.length)→((AI c[i].wh c[i].kd).any fun y=>y==last)=true→∃j,j≤i∧M1 c last j=true
 | 0,hi,h=>⟨0,Nat.le_refl _,by unfold M1;rw [List.getElem?_eq_getElem hi];simp [h]⟩
 | i+1,hi,h=>by
  by_cases e:c[i]? =some c[i+1]
  ·obtain ⟨h2,h3⟩:=List.getElem?_eq_some_iff.1 e;obtain ⟨j,h4,h5⟩:=xP i h2 (by rw [h3];exact h);exact ⟨j,by omega,h5⟩
  ·refine ⟨i+1,Nat.le_refl _,?_⟩;unfold M1;rw [List.getElem?_eq_getElem hi];simp only [h,Nat.add_sub_cancel];simp [e]
theorem w7 {me:List Gp} {last fm:Int} {c:List Gp} {j:Nat} (hj:M1 c last j=true):∀n,j<n→L2 me last fm c n≠[]
 | 0,h=>absurd h (Nat.not_lt_zero _)
 | n+1,h=>by
  rw [L2];by_cases e:j=n
  ·subst e;rw [if_pos hj];simp
  ·have:=w7 (me:=me) (fm:=fm) hj n (by omega);simp [this]
theorem xW {bag:List Int} {c:List Gp} (h:wQ bag c) {last:Nat} (h0:0<bag.getD last 0):∃j,j<c.length∧M1 c last j=true:=by
 obtain ⟨g,hg,hp⟩:=Mu (show 0<B7 c last by rw [h.ct];exact h0);obtain ⟨i,hi,rfl⟩:=List.mem_iff_getElem.1 hg;have hm:(last:Int)∈AI c[i].wh c[i].kd:=by
  unfold Di Cz at hp;exact List.count_pos_iff.1 (by omega)
 obtain ⟨j,h1,h2⟩:=xP (last:=last) i hi (List.any_eq_true.2 ⟨_,hm,by simp⟩);exact ⟨j,by omega,h2⟩
def xT (s:AL) (l:List Fm) (h:Hd):List (Int×List Gp):=xE (Hf s h) h.me l l.length
theorem wM {A:Fm→List (List Gp)} {me:List Gp} {l:List Fm}:∀n,(0<(xE A me l n).length↔∃k,k<n∧∃f,l[k]? =some f∧0<(A f).length)
 | 0=>by simp [xE]
 | n+1=>by
  have ih:=wM (A:=A) (me:=me) (l:=l) n;rw [xE,List.length_append];constructor
  ·intro h;by_cases h1:0<(xE A me l n).length
   ·obtain ⟨k,hk,h2⟩:=ih.1 h1;exact ⟨k,by omega,h2⟩
   ·cases hf:l[n]? with
    | none=>rw [hf] at h;simp at h;omega
    | some f=>rw [hf] at h;simp at h;exact ⟨n,by omega,f,hf,by omega⟩
  ·rintro ⟨k,hk,f,hf,h0⟩;by_cases hkn:k<n
   ·have:=ih.2 ⟨k,hkn,f,hf,h0⟩;omega
   ·obtain rfl:k=n:=by omega
    rw [hf];simp;omega
theorem xR {s:AL} {l:List Fm} {h:Hd} (hf:A6 s l=0) (hU:Am s h=true):Ug s l h=decide (0<(xT s l h).length):=by
 have:Ag s h=0:=by unfold Am at hU;simp at hU;exact hU.1
 unfold Ug Dn Ch xT GZ;rw [hf,this,hU,Bool.eq_iff_iff,decide_eq_true_eq,wM];simp only [decide_true,Bool.true_and,List.any_eq_true,decide_eq_true_eq];constructor
 ·rintro ⟨f,hm,h0⟩;obtain ⟨k,hk,rfl⟩:=List.mem_iff_getElem.1 hm;exact ⟨k,hk,_,List.getElem?_eq_getElem hk,h0⟩
 ·rintro ⟨k,hk,f,hf,h0⟩;exact ⟨f,List.mem_of_getElem? hf,h0⟩
end Go.Proofs.YthblfhgofopcaaaGreat

namespace Go.Proofs.YthblfhgofopcaaaGreat
open Go.RowKit
set_option maxRecDepth 100000
set_option maxHeartbeats 2000000
theorem xB (a b:Gp):Uv a b=decide (C6 a b= -1):=by
 have h:=A2 a b;unfold Uv;rw [Bool.eq_iff_iff];simp;omega
end Go.Proofs.YthblfhgofopcaaaGreat

namespace Go.Proofs.YthblfhgofopcaaaGreat
theorem wZ (g:Gp) (l:List Gp):∀n,Nu g l n=Lh l g n
 | 0=>rfl
 | n+1=>by
  have ih:=wZ g l n;unfold Nu Lh;cases l[n]? with
  | none=>rfl
  | some x =>
   simp only;have h:=A2 g x;by_cases c:C6 g x<0
   ·rw [if_pos c,if_pos (by rw [xB,decide_eq_true_eq];omega),ih]
   ·rw [if_neg c,if_neg (by rw [xB,decide_eq_true_eq];omega)]
theorem wO (l:List Gp):IG l=CX l:=by
 have e:U4=BN:=by funext a b;unfold U4 BN;rw [wZ]
 unfold IG CX;rw [e]
theorem xM {ms:List Gp} {i:Nat} {g:Gp} (hi:i<ms.length) (hg:ms[i]=g) (k:Nat):B7 ms k=B7 (ms.take i++ms.drop (i+1)) k+Di g k:=by
 have e:ms=ms.take i++g::ms.drop (i+1):=by
  rw [←hg,←List.drop_eq_getElem_cons hi,List.take_append_drop]
 have h:=congrArg (fun l=>B7 l k) e;have h:B7 ms k=B7 (ms.take i++g::ms.drop (i+1)) k:=h;rw [RC] at h;rw [h,RC];show _+(Di g k+_)=_;omega
structure wX (s:AL) (P:Nat) (ms:List Gp) (X:List Int) (gl:List Gp):Prop where
 fi:∃Y,Kx s P ms X Y
 mo:QU s ms
 sm:X.sum=3*(s.me-ms.length)+2
 sp:Hu P (AT s) X gl
theorem wX.full {s:AL} {P:Nat} {ms:List Gp} {X:List Int} {gl:List Gp} (B:wX s P ms X gl) (hv:AP s=0) (hP:AQ s=(P:Int)):Am s ⟨X,ms⟩=true:=by
 obtain ⟨Y,F⟩:=B.fi;exact F.full B.mo hv hP B.sm
theorem xC {s:AL} {P:Nat} {g:Gp} (hv:AP s=0) (hP:AQ s=(P:Int)) (h:Ak s g.wh g.kd=0) (h1:1≤g.wh∧g.wh≤2):FJ P (AT s) ⟨g.wh,g.kd,false⟩:=by
 have hK:=(A7 hv).2.1;unfold Ak at h;split at h
 ·cases h
 ·split at h
  ·cases h
  ·rename_i h2 h3;split at h
   ·cases h
   ·rename_i h4;refine ⟨rfl,by dsimp only;omega,by dsimp only;omega,?_⟩;by_cases c:g.wh=1
    ·refine .inr ⟨c,?_⟩;cases hr:AT s g.kd with
     | true=>rfl
     | false=>exact absurd ⟨c,hr⟩ h4
    ·exact .inl (show g.wh=2 by omega)
theorem xS {g:Gp} (h:g.op=false):(⟨g.wh,g.kd,false⟩:Gp)=g:=by
 obtain ⟨a,b,c⟩:=g;dsimp only at h;rw [h]
theorem xZ {s:AL} {P:Nat} {a:BR} (hM:Jn s) (hP:AQ s=(P:Int)) (h:u0 s P a) (hok:a.ok=true):wX s P a.ms a.X a.gl:=by
 obtain ⟨hu,hl,gs,k,e,hg,hk,hn,hc⟩:=h.yes hok;obtain ⟨ho,hsum⟩:=Pt hu;have hv:=hM.ok;refine ⟨h.fi.2,h.fi.1,hsum,?_⟩;rw [e,wO];have hp:=BV (gs++[⟨4,k,false⟩]);have hme:∀g∈gs,FJ P (AT s) g:=fun g hm=>by
  obtain ⟨h1,h2,h3⟩:=hg g hm;have:=xC hv hP h1 h2;rw [xS h3] at this;exact this
 refine ⟨HV _,fun g hm=> ?_,?_,fun i=>by rw [EK hp,hc]⟩
 ·rcases List.mem_append.1 (hp.subset hm) with h | h
  ·exact .inl (hme g h)
  ·simp at h;subst h;exact .inr ⟨rfl,hk.1,hk.2,rfl⟩
 ·rw [hp.countP_eq,List.countP_append,gF hme];rfl
theorem xJ {s:AL} {P:Nat} {ms:List Gp} {X:List Int} {gl:List Gp} (B:wX s P ms X gl) (hv:AP s=0) (hP:AQ s=(P:Int)) {i:Nat} {g:Gp} (hi:i<ms.length) (hg:ms[i]=g) (hw:g.wh≠3):wX s P (ms.take i++ms.drop (i+1)) (A5 X (AI g.wh g.kd)) (IG (gl++[⟨g.wh,g.kd,false⟩])):=by
 obtain ⟨Y,F⟩:=B.fi;have hgm:g∈ms:=by rw [←hg];exact List.getElem_mem hi
 have hme:=B.mo.ml g hgm;have hin:=B.mo.inb hv hP hgm;have hgr:=Md hme;have hw1:1≤g.wh∧g.wh≤2:=by
  unfold BJ at hme;split at hme
  ·cases hme
  ·have:¬(g.wh<1∨5<g.wh):=fun h=>by unfold Ak at hgr;rw [if_pos h] at hgr;cases hgr
   omega
 have hl3:(AI g.wh g.kd).length=3:=by unfold AI;rcases (show g.wh=1∨g.wh=2 by omega) with h | h<;>rw [h]<;>rfl
 have hlen:(ms.take i++ms.drop (i+1)).length+1=ms.length:=by rw [List.length_append,List.length_take,List.length_drop];omega
 have hinX:D8 X.length (AI g.wh g.kd):=by rw [F.xl];exact hin
 have hget:=fun k=>CY (AI g.wh g.kd) X hinX k
 refine ⟨⟨Y,by rw [Bp];exact F.xl,F.yl,fun k=> ?_,fun k=> ?_,F.yc⟩,⟨fun x hx=> ?_,?_⟩,?_,?_⟩
 ·rw [hget];have:=F.x0 k;have:=Ai (AI g.wh g.kd) k;omega
 ·rw [hget,F.y k,xM hi hg k];show _=_+Di g k+_;omega
 ·rcases List.mem_append.1 hx with h | h
  ·exact B.mo.ml x (List.mem_of_mem_take h)
  ·exact B.mo.ml x (List.mem_of_mem_drop h)
 ·have:=B.mo.ln;omega
 ·rw [Jm _ _ hinX,hl3,B.sm];omega
 ·rw [wO];have hp:=BV (gl++[⟨g.wh,g.kd,false⟩]);have hmd:=xC hv hP hgr hw1;refine ⟨HV _,fun x hx=> ?_,?_,fun k=> ?_⟩
  ·rcases List.mem_append.1 (hp.subset hx) with h | h
   ·exact B.sp.me x h
   ·simp at h;subst h;exact .inl hmd
  ·rw [hp.countP_eq,List.countP_append,B.sp.pr];have:=gF (x:=[(⟨g.wh,g.kd,false⟩:Gp)]) (fun x hx=>by simp at hx;subst hx;exact hmd);rw [this]
  ·rw [EK hp,RC,B.sp.ct,hget];rfl
end Go.Proofs.YthblfhgofopcaaaGreat

namespace Go.Proofs.YthblfhgofopcaaaGreat
open Go.RowKit
set_option maxRecDepth 100000
set_option maxHeartbeats 2000000
theorem xO {s:AL} {X:List Int} {ms gl:List Gp} (hf:A6 s Ma=0) (hU:Am s ⟨X,ms⟩=true) (hg:gl∈Hf s ⟨X,ms⟩ ⟨1,[],false⟩):∃k,k<X.length∧∃r∈Mz s Ma ⟨X,ms⟩ (k:Nat),r.gs=ms++gl:=by
 have hfo:=(Ht hf).2.2 ⟨1,[],false⟩ (by simp [Ma]);obtain ⟨h1,h2⟩:=x7 (h:=⟨X,ms⟩) hfo hU;have ho:=Pt hU;obtain ⟨b1,b2,b3⟩:=Mx ho.1.va ho.1.cn;have hsum:=ho.2;have hme:=(AU ho.1.va).me;have hmm:=ho.1.mm;dsimp only at hsum hmm b1 b2;have hex:∃k,k<X.length∧X.getD k 0≠0:=by
  rcases Classical.em (∃k,k<X.length∧X.getD k 0≠0) with h | h
  ·exact h
  ·have:X.sum=0:=OS fun i=>by
    by_cases hi:i<X.length
    ·exact Classical.not_not.1 fun h2=>h ⟨i,hi,h2⟩
    ·simp [hi]
   omega
 obtain ⟨k,hk,h0⟩:=hex;refine ⟨k,hk,?_⟩;have hk0:=(b1 k).1;obtain ⟨j,j1,j2⟩:=xW (h2 gl hg) (last:=k) (by dsimp only;omega);have ha:RJ s ⟨X,ms⟩ Ma k=true:=by
  unfold RJ Ch;have:Ag s ⟨X,ms⟩=0:=by unfold Am at hU;simp at hU;exact hU.1
  rw [hf,this,hU];simp;exact ⟨hk,h0⟩
 have hne:=w7 (me:=ms) (fm:=0) j2 gl.length j1;obtain ⟨r,hr⟩:=List.exists_mem_of_ne_nil _ hne;refine ⟨r,?_,?_⟩
 ·unfold Mz GI;rw [if_pos ha];show r∈Kn _ _ _ Ma 1;rw [Kn,Kn,List.nil_append];show r∈N7 _ _ _ _;unfold N7;exact List.mem_flatMap.2 ⟨gl,hg,hr⟩
 ·obtain ⟨_,_,_,e⟩:=wU _ r hr;rw [e]
theorem x5 {s:AL} {P:Nat} {ms:List Gp} {X:List Int} {gl:List Gp} (B:wX s P ms X gl) (hv:AP s=0) (hP:AQ s=(P:Int)):gl∈Hf s ⟨X,ms⟩ ⟨1,[],false⟩:=by
 obtain ⟨Y,F⟩:=B.fi;have hU:=B.full hv hP;obtain ⟨ho,hsum⟩:=Pt hU;obtain ⟨b1,b2,b3⟩:=Mx ho.va ho.cn;have hme:=(AU hv).me;have hmm:=ho.mm;dsimp only at hsum hmm b1 b2 b3;have hr:C7 X.length (AT s):=fun k h=>by have:=Ct h;omega
 unfold Hf;rw [if_pos (by show (ms.length:Int)≤s.me;exact hmm)];show gl∈Eg (AT s) 20 X;have hsp:=B.sp;rw [←F.xl] at hsp;exact ((Fb hr ⟨rfl,fun i=>(b1 i).1⟩ (f:=20) (by omega)).2 gl).2 hsp
theorem wY {s:AL} {h:Hd} {last:Int}:(Mz s Ma h last).length≤30000000:=by
 unfold Mz GI;split
 ·rename_i ha;unfold RJ at ha;simp only [Bool.and_eq_true,decide_eq_true_eq] at ha;obtain ⟨⟨⟨⟨c1,c2⟩,_⟩,_⟩,_⟩:=ha;have hA:∀f∈Ma,Yx s (Hf s h f):=fun f hf=>Nm (HW c1 f hf) c2
  have:=Lz (Hf s h) h.me last (fs:=Ma) (a:=100000) (m:=100) (fun f hf=>⟨(hA f hf).ln,fun c hc=>((hA f hf).w c hc).2.1⟩) Ma.length;have h2:Ma.length=1:=rfl;rw [h2] at this ⊢;omega
 ·simp
set_option maxHeartbeats 16000000 in
theorem wR (nums:List Int) (hn:nums.length≤9223372036854775807):AM Tryz.prog 9 [AN false nums] (B true):=by
 have CN:Hn Tryz.prog 44 [AN false nums] [] (fun _:Int=> .ref 0 0 0 0) (fun x=>Af x) (fun _=>True):=EE (PK nums hn) fun v hl=>by
  rintro ⟨x,rfl,rfl⟩;exact ⟨x,trivial,rfl,rfl⟩
 refine zb Tryz.ntmps9 ?_;let tb:=x9;let lv:=xV;(repeat' first | refine zQ ?_ | (refine zN ?_;intro K hC hK) | (refine zM ?_;try clear hK hC K) | (refine zC ?_ ?_<;>intro hb) | (refine zK ?_;intro Jo JU JC AH AJ AG))
 (have fa:= @Af.eq_1;refine zX (tg []) (CN) ?_;clear AH AJ AG Jo JU JC;(try clear fa));intro xr hxr;(repeat' first | refine zQ ?_ | (refine zN ?_;intro K hC hK) | (refine zM ?_;try clear hK hC K) | (refine zC ?_ ?_<;>intro hb) | (refine zK ?_;intro Jo JU JC AH AJ AG))
 (have fa:= @Af.eq_1;refine zX (tg [32]) (aQ xr) ?_;clear AH AJ AG Jo JU JC;(try clear fa));intro xr hxr;obtain ⟨s,x1⟩:=xr;dsimp only at hxr ⊢;have hM:=hxr;have hv:=hM.ok;clear hxr;(repeat' first | refine zQ ?_ | (refine zN ?_;intro K hC hK) | (refine zM ?_;try clear hK hC K) | (refine zC ?_ ?_<;>intro hb) | (refine zK ?_;intro Jo JU JC AH AJ AG))
 (have fa:= @Af.eq_1;refine zX (tg [32]) (UF x1 s hM) ?_;clear AH AJ AG Jo JU JC;(try clear fa));intro xr hxr;obtain ⟨p1,p2,p3,p4⟩:=A7 hv;obtain ⟨P,hP⟩:∃P:Nat,AQ s=(P:Int):=⟨(AQ s).toNat,by omega⟩;rw [hP] at hxr p3 p4 ⊢;rw [Int.toNat_natCast] at hxr ⊢;have hb:=xZ hM hP hxr;obtain ⟨Y0,hF0⟩:=hxr.fi.2;have hXl:=hF0.xl;clear hxr;obtain ⟨ms,gl,X,ok,y⟩:=xr;dsimp only at hb hXl ⊢;have hTX:X.take P=X:=List.take_of_length_le (by omega);have hTX2:P≤X.length:=by omega
 cases ok with
 | false =>
  (have fa:=(And.intro hTX hTX2);(repeat' first | refine zS Gy ?_ | refine zQ ?_ | (refine zN ?_;intro K hC hK) | (refine zM ?_;try clear hK hC K) | (refine zC ?_ ?_<;>intro hb) | (refine zK ?_;intro Jo JU JC AH AJ AG))<;>(try clear fa))
  refine Aa [] ?_ ?_<;>(first | exact AK | refine zE ?_)
 | true =>
  have qB0:=hb rfl;clear hb hF0;(have fa:=(And.intro hTX hTX2);(repeat' first | refine zQ ?_ | (refine zN ?_;intro K hC hK) | (refine zM ?_;try clear hK hC K) | (refine zC ?_ ?_<;>intro hb) | (refine zK ?_;intro Jo JU JC AH AJ AG))<;>(try clear fa))
  have CW2:=RX;have hff:A6 s Ma=0:=by
   refine wV hv (by decide) (by decide) fun f hf=> ?_
   simp [Ma] at hf;subst hf;exact I8 hv
  have hco:=(AU hv).co;have hme:=(AU hv).me;have hsu3:=(AU hv).su3;refine At (α:=Bool×List Gp×List Int×List Gp) (fun a=>[(4, .ref 0 0 0 0),(5, .ref 1 0 0 0),(6,AX false a.2.2.2)]) (fun a=>[(0, .arr 0 9 [AO s]),(1, .arr 0 2 [.agg [AN true a.2.2.1,AX a.1 a.2.1]])]) (fun a=>a.2.1.length) (fun a=>wX s P a.2.1 a.2.2.1 a.2.2.2) [(96,0),(240,1)] [(0,0),(1,1)] 1 [4,5,6] 900 zf zf (false,ms,X,gl) qB0 (by (have fa:=(And.intro hTX hTX2);exact C8)) ?_;clear qB0 hTX hTX2 hXl;rintro ⟨fl,ms,X,gl⟩ qB0 J hcJ hJ;dsimp only at qB0 hJ ⊢;have hU:=qB0.full hv hP;obtain ⟨ho,hsum⟩:=Pt hU;have hmm:=ho.mm;have hap:=x5 qB0 hv hP;obtain ⟨kx,kx1,rx,rx1,rx2⟩:=xO hff hU hap;have hXl:X.length=P:=by obtain ⟨Y,F⟩:=qB0.fi;exact F.xl
  have hgl:gl.length≤100:=(Nm (show Az s ⟨1,[],false⟩=0 from I8 hv) hU).w gl hap |>.2.1;dsimp only at hsum hmm;have S:FM s Ma ⟨X,ms⟩:=⟨by decide,by decide,by omega,by dsimp only;omega,by dsimp only;omega⟩;have CWi:=Fw S;rw [show Ug s Ma ⟨X,ms⟩=true by
   rw [xR hff hU]
   refine decide_eq_true (wM _ |>.2 ⟨0,by decide,⟨1,[],false⟩,rfl,?_⟩)
   exact List.length_pos_iff.2 (List.ne_nil_of_mem hap)] at CWi
  (repeat' first | refine zQ ?_ | (refine zN ?_;intro K hC hK) | (refine zM ?_;try clear hK hC K) | (refine zC ?_ ?_<;>intro hb) | (refine zK ?_;intro Jo JU JC AH AJ AG))
  refine At (α:=Nat×Nat) (fun a=>[(4, .ref 0 0 0 0),(5, .ref 1 0 0 0),(6,AX false gl),(8,I a.1),(9,I a.2)]) (fun _=>[(0, .arr 0 9 [AO s]),(1, .arr 0 2 [.agg [AN true X,AX fl ms]])]) (fun a=>P-a.2) (fun a=>a.2≤P∧a.1≤a.2*30000000∧(0<a.1↔∃k' :Nat,k' <a.2∧∃r∈Mz s Ma ⟨X,ms⟩ (k' :Int),r.gs=ms++gl)) [(0,0),(1,1)] [(0,0),(1,1)] 0 [4,5,6,8,9] 1900 zf zf (0,0) ⟨Nat.zero_le _,Nat.le_refl _,by simp⟩ (by exact C8) ?_;rintro ⟨f0,k⟩ ⟨hk,hf0,hfi⟩ qJ1 hcJ1 hJ1;dsimp only at hk hf0 hfi hJ1 ⊢;by_cases hlt:k<P
  ·have P1:=wP k S;have p3:=wY (s:=s) (h:=⟨X,ms⟩) (last:=k);have hrd:=xK (s:=s) (l:=Ma) (h:=⟨X,ms⟩) (last:=k);obtain ⟨RR,hRR⟩:∃RR,Mz s Ma ⟨X,ms⟩ k=RR:=⟨_,rfl⟩;rw [hRR] at P1 p3 hrd;have hfk:∀n:Nat,((∃k' :Nat,k' <k∧∃r∈Mz s Ma ⟨X,ms⟩ (k' :Int),r.gs=ms++gl)∨∃r∈RR,r.gs=ms++gl)↔∃k' :Nat,k' <k+1∧∃r∈Mz s Ma ⟨X,ms⟩ (k' :Int),r.gs=ms++gl:=fun _=>by
    constructor
    ·rintro (⟨k',h1,h2⟩ | h)
     ·exact ⟨k',by omega,h2⟩
     ·exact ⟨k,by omega,by rw [hRR];exact h⟩
    ·rintro ⟨k',h1,h2⟩;by_cases e:k' =k
     ·subst e;rw [hRR] at h2;exact .inr h2
     ·exact .inl ⟨k',by omega,h2⟩
   clear hRR;(have fa:= @Ay;(repeat' first | refine zS RX ?_ | refine zS P1 ?_ | refine zQ ?_ | (refine zN ?_;intro K hC hK) | (refine zM ?_;try clear hK hC K) | (refine zC ?_ ?_<;>intro hb) | (refine zK ?_;intro Jo JU JC AH AJ AG))<;>(try clear fa))
   refine At (α:=Nat×Nat) (fun a=>[(4, .ref 0 0 0 0),(5, .ref 1 0 0 0),(6,AX false gl),(8,I a.1),(9,I k),(10,N0 true RR),(11,I a.2)]) (fun _=>[(0, .arr 0 9 [AO s]),(1, .arr 0 2 [.agg [AN true X,AX fl ms]])]) (fun a=>RR.length-a.2) (fun a=>a.2≤RR.length∧a.1≤f0+a.2∧(0<a.1↔0<f0∨∃r∈RR.take a.2,r.gs=ms++gl)) [(0,0),(1,1)] [(0,0),(1,1)] 0 [4,5,6,8,9,10,11] 2900 zf zf (f0,0) ⟨Nat.zero_le _,Nat.le_refl _,by simp⟩ (by exact C8) ?_;rintro ⟨f1,i⟩ ⟨hi,hf1,hfj⟩ J2 hcJ2 hJ2;dsimp only at hi hf1 hfj hJ2 ⊢;have hfb:f0≤100000000000:=by have:=Nat.mul_le_mul_right 30000000 (show k≤1000 by omega);omega
   by_cases hli:i<RR.length
   ·obtain ⟨r,hr⟩:∃r,RR[i]=r:=⟨_,rfl⟩;obtain ⟨q,f,c,j,_,_,_,_,e5⟩:=hrd r (by rw [←hr];exact List.getElem_mem hli);have htk:RR.take (i+1)=RR.take i++[r]:=by rw [List.take_succ_eq_append_getElem hli,hr]
    have hcl:(ms++c).length=ms.length+c.length:=by simp
    have hdr:List.drop ms.length (ms++c)=c:=by simp
    have htc:List.take (ms.length+c.length-ms.length) c=c:=List.take_of_length_le (by omega);subst e5;clear hrd;by_cases hcg:c=gl
    ·subst hcg;have CG:=Ku c c (by omega);rw [decide_eq_true rfl] at CG;(have fa:=(And.intro hr (And.intro hcl (And.intro hdr (And.intro htc (And.intro @bne_self_eq_false.{0} (@beq_self_eq_true Int _ _))))));(repeat' first | refine zS CG ?_ | refine zQ ?_ | (refine zN ?_;intro K hC hK) | (refine zM ?_;try clear hK hC K) | (refine zC ?_ ?_<;>intro hb) | (refine zK ?_;intro Jo JU JC AH AJ AG))<;>(try clear fa))
     exact hJ2 _ (f1+1,i+1) (by dsimp only;omega) ⟨by dsimp only;omega,by dsimp only;omega,by
      dsimp only
      rw [htk]
      exact ⟨fun _=> .inr ⟨_,List.mem_append_right _ (List.mem_singleton.2 rfl),rfl⟩,fun _=>Nat.succ_pos _⟩⟩ (by exact C8)
    ·have hno:¬ms++c=ms++gl:=fun h=>hcg (List.append_cancel_left h)
     have hnx:(0<f1↔0<f0∨∃r∈RR.take (i+1),r.gs=ms++gl):=by
      rw [htk,hfj];constructor
      ·rintro (h | ⟨r,h1,h2⟩)
       ·exact .inl h
       ·exact .inr ⟨r,List.mem_append_left _ h1,h2⟩
      ·rintro (h | ⟨r,h1,h2⟩)
       ·exact .inl h
       ·rcases List.mem_append.1 h1 with h3 | h3
        ·exact .inr ⟨r,h3,h2⟩
        ·rw [List.mem_singleton] at h3;subst h3;exact absurd h2 hno
     by_cases hcl2:c.length=gl.length
     ·have CG:=Ku c gl (by omega);rw [decide_eq_false hcg] at CG;(have fa:=(And.intro hr (And.intro hcl (And.intro hdr htc)));(repeat' first | refine zS CG ?_ | refine zQ ?_ | (refine zN ?_;intro K hC hK) | (refine zM ?_;try clear hK hC K) | (refine zC ?_ ?_<;>intro hb) | (refine zK ?_;intro Jo JU JC AH AJ AG))<;>(try clear fa))
      exact hJ2 _ (f1,i+1) (by dsimp only;omega) ⟨by dsimp only;omega,by dsimp only;omega,hnx⟩ (by exact C8)
     ·(have fa:=(And.intro hr (And.intro hcl (And.intro hdr htc)));(repeat' first | refine zQ ?_ | (refine zN ?_;intro K hC hK) | (refine zM ?_;try clear hK hC K) | (refine zC ?_ ?_<;>intro hb) | (refine zK ?_;intro Jo JU JC AH AJ AG))<;>(try clear fa))
      exact hJ2 _ (f1,i+1) (by dsimp only;omega) ⟨by dsimp only;omega,by dsimp only;omega,hnx⟩ (by exact C8)
   ·obtain rfl:i=RR.length:=by omega
    rw [List.take_length] at hfj;(repeat' first | refine zQ ?_ | (refine zN ?_;intro K hC hK) | (refine zM ?_;try clear hK hC K) | (refine zC ?_ ?_<;>intro hb) | (refine zK ?_;intro Jo JU JC AH AJ AG))
    exact hJ1 _ (f1,k+1) (by dsimp only;omega) ⟨by dsimp only;omega,by dsimp only;omega,by dsimp only;rw [←hfk 0,hfj,hfi]⟩ (by exact C8)
  ·obtain rfl:k=P:=by omega
   have hpos:0<f0:=hfi.2 ⟨kx,by omega,rx,rx1,rx2⟩;have hf0b:f0≤100000000000:=by have:=Nat.mul_le_mul_right 30000000 (show k≤1000 by omega);omega
   (have fa:= @Ay;(repeat' first | refine zS RX ?_ | refine zS CWi ?_ | refine zQ ?_ | (refine zN ?_;intro K hC hK) | (refine zM ?_;try clear hK hC K) | (refine zC ?_ ?_<;>intro hb) | (refine zK ?_;intro Jo JU JC AH AJ AG))<;>(try clear fa))
   refine At (α:=Int×Nat) (fun a=>[(4, .ref 0 0 0 0),(5, .ref 1 0 0 0),(6,AX false gl),(12,I a.1),(13,I a.2)]) (fun _=>[(0, .arr 0 9 [AO s]),(1, .arr 0 2 [.agg [AN true X,AX fl ms]])]) (fun a=>ms.length-a.2) (fun a=>a.2≤ms.length∧(a.1= -1∨∃i:Nat,∃h:i<ms.length,a.1=i∧ms[i].wh≠3)) [(0,0),(1,1)] [(0,0),(1,1)] 0 [4,5,6,12,13] 2900 zf zf (-1,0) ⟨Nat.zero_le _, .inl rfl⟩ (by exact C8) ?_;clear hfi hf0 hf0b hpos hk qJ1 hcJ1 hJ1;rintro ⟨at_,m⟩ ⟨hm,hat⟩ qJ1 hcJ1 hJ1;dsimp only at hm hat hJ1 ⊢;by_cases hml:m<ms.length
   ·obtain ⟨g,hg⟩:∃g,ms[m]=g:=⟨_,rfl⟩;by_cases hw:g.wh=3
    ·(have fa:=(And.intro hg (And.intro hw @bne_self_eq_false.{0}));(repeat' first | refine zQ ?_ | (refine zN ?_;intro K hC hK) | (refine zM ?_;try clear hK hC K) | (refine zC ?_ ?_<;>intro hb) | (refine zK ?_;intro Jo JU JC AH AJ AG))<;>(try clear fa))
     exact hJ1 _ (at_,m+1) (by dsimp only;omega) ⟨by dsimp only;omega,hat⟩ (by exact C8)
    ·(have fa:=hg;(repeat' first | refine zQ ?_ | (refine zN ?_;intro K hC hK) | (refine zM ?_;try clear hK hC K) | (refine zC ?_ ?_<;>intro hb) | (refine zK ?_;intro Jo JU JC AH AJ AG))<;>(try clear fa))
     exact hJ1 _ ((m:Int),m+1) (by dsimp only;omega) ⟨by dsimp only;omega, .inr ⟨m,hml,rfl,by rw [hg];exact hw⟩⟩ (by exact C8)
   ·obtain rfl:m=ms.length:=by omega
    rcases hat with rfl | ⟨i,hi,rfl,hw⟩
    ·(repeat' first | refine zS Gy ?_ | refine zQ ?_ | (refine zN ?_;intro K hC hK) | (refine zM ?_;try clear hK hC K) | (refine zC ?_ ?_<;>intro hb) | (refine zK ?_;intro Jo JU JC AH AJ AG))
     refine Aa [] ?_ ?_<;>(first | exact AK | refine zE ?_)
    obtain ⟨g,hg⟩:∃g,ms[i]=g:=⟨_,rfl⟩;rw [hg] at hw;have B1:=xJ qB0 hv hP hi hg hw;have hgm:g∈ms:=by rw [←hg];exact List.getElem_mem hi
    have hin:=qB0.mo.inb hv hP hgm;have hgr:=Md (qB0.mo.ml g hgm);have CT:=Ep s ⟨g.wh,g.kd,false⟩;dsimp only at CT;rw [show BT s g.wh g.kd=AI g.wh g.kd by unfold BT;rw [if_pos ⟨hv,hgr⟩]] at CT;have CC:=Ej ⟨X,ms⟩ (by dsimp only;omega) (by dsimp only;omega);dsimp only at CC;obtain ⟨gw,gk,go⟩:=g;dsimp only at hw B1 hin hgr CT;obtain ⟨l,hl⟩:∃l,AI gw gk=l:=⟨_,rfl⟩;have hl4:=Bt gw gk;rw [hl] at hin CT B1 hl4;have hTX:List.take X.length X=X:=List.take_length;have hTm:List.take ms.length ms=ms:=List.take_length;have hr0:=ho.rg;dsimp only at hr0;have e1:((i:Int)-0).toNat=i:=by omega
    have e2:((ms.length:Int)-(i+1)).toNat=ms.length-(i+1):=by omega
    have e3:List.take (ms.length-(i+1)) (List.drop (i+1) ms)=List.drop (i+1) ms:=List.take_of_length_le (by simp);have e4:min (ms.length-(i+1)) (ms.length-(i+1))=ms.length-(i+1):=Nat.min_self _;(have fa:=(And.intro hg (And.intro hTX (And.intro hTm (And.intro e1 (And.intro e2 (And.intro e3 (And.intro e4 @Ay)))))));(repeat' first | refine zS CT ?_ | refine zO CC ?_ | refine zQ ?_ | (refine zN ?_;intro K hC hK) | (refine zM ?_;try clear hK hC K) | (refine zC ?_ ?_<;>intro hb) | (refine zK ?_;intro Jo JU JC AH AJ AG))<;>(try clear fa))
    have hMl:i+(ms.length-(i+1))=(ms.take i++ms.drop (i+1)).length:=by simp;omega
    have hMs:(ms.take i++ms.drop (i+1)).length<ms.length:=by omega
    obtain ⟨M,hMe⟩:∃M,ms.take i++ms.drop (i+1)=M:=⟨_,rfl⟩;rw [hMe] at hMl hMs B1 ⊢;rw [hMl];have h00:A5 X (l.take 0)=X:=rfl;refine At (α:=Nat) (fun q=>[(4, .ref 0 0 0 0),(5, .ref 1 0 0 0),(6,AX false gl),(14, .ref 2 0 0 0),(15,AN true l),(16,I q)]) (fun q=>[(0, .arr 0 9 [AO s]),(1, .arr 0 2 [.agg [.rsl 3 1 0 X.length, .rsl 4 2 0 M.length]]),(2, .arr 0 3 [.agg [I gw,I gk,B false]]),(3, .arr 1 1 ((A5 X (l.take q)).map I)),(4, .arr 2 3 (M.map AZ))]) (fun q=>l.length-q) (fun q=>q≤l.length) [(0,0),(1,1),(3092,2),(3236,3),(3237,4)] [(0,0),(1,1),(2,2),(3,3),(4,4)] 1 [4,5,6,14,15,16] 3900 zf zf 0 (Nat.zero_le _) (by (have fa:=h00;exact C8)) ?_;rintro q hq J3 hcJ3 hJ3;have hinX:D8 X.length l:=by rw [hXl];exact hin
    have hZb:∀q j,-1000000000≤(A5 X (l.take q)).getD j 0∧(A5 X (l.take q)).getD j 0≤1000000000:=fun q j=>by
     rw [CY _ _ (fun z hz=>hinX z (List.mem_of_mem_take hz))];have a1:=Cu (l.take q) j;have a2:=Ai (l.take q) j;have a3:=Lu (P:=fun z=>0≤z∧z≤s.co) (fun z hz=>hr0 z hz) (by omega) j;rw [List.length_take] at a1;omega
    have hZl:∀q,(A5 X (l.take q)).length=X.length:=fun q=>Bp _ _
    by_cases hlq:q<l.length
    ·obtain ⟨z,hz⟩:∃z,l[q]=z:=⟨_,rfl⟩;have hzi:=hinX z (by rw [←hz];exact List.getElem_mem hlq);have ht:=D4 X l hlq;have hYl:=hZl q;have hYb:=hZb q;obtain ⟨Y,hYe⟩:∃Y,A5 X (l.take q)=Y:=⟨_,rfl⟩;rw [hYe,hz] at ht;rw [hYe] at hYl hYb;have A:=I3 (X:=Y) (z:=z) hzi.1 (by omega) hYb;have a1:=A.lt;have a2:=A.up;have a3:=A.st;rw [hYe];(have fa:=(And.intro hz (And.intro a2 a3));(repeat' first | refine zQ ?_ | (refine zN ?_;intro K hC hK) | (refine zM ?_;try clear hK hC K) | (refine zC ?_ ?_<;>intro hb) | (refine zK ?_;intro Jo JU JC AH AJ AG))<;>(try clear fa))
     exact hJ3 _ (q+1) (by omega) (by omega) (by (have fa:=ht;exact C8))
    ·obtain rfl:q=l.length:=by omega
     have hX2l:=hZl l.length;rw [List.take_length] at hX2l ⊢;obtain ⟨X2,hX2⟩:∃X2,A5 X l=X2:=⟨_,rfl⟩;rw [hX2] at hX2l B1 ⊢;have CO:=JI (gl++[⟨gw,gk,false⟩]) (by simp) (by simp;omega);have hgT:List.take (gl.length+1) (gl++[(⟨gw,gk,false⟩:Gp)])=gl++[⟨gw,gk,false⟩]:=List.take_of_length_le (by simp);have hgl2:(gl++[(⟨gw,gk,false⟩:Gp)]).length=gl.length+1:=by simp
     have hgx:AV.agg [I gw,I gk,B false]=AZ ⟨gw,gk,false⟩:=rfl;have hT2:List.take X.length X2=X2:=List.take_of_length_le (by omega);have hT3:X.length≤X2.length:=by omega
     have hT4:List.take M.length M=M:=List.take_length;have hTg:List.take gl.length gl=gl:=List.take_length;(have fa:=(And.intro hgx (And.intro hgT (And.intro hgl2 (And.intro hTg @Ay))));(repeat' first | refine zS CO ?_ | refine zQ ?_ | (refine zN ?_;intro K hC hK) | (refine zM ?_;try clear hK hC K) | (refine zC ?_ ?_<;>intro hb) | (refine zK ?_;intro Jo JU JC AH AJ AG))<;>(try clear fa))
     exact hJ _ (true,M,X2,IG (gl++[⟨gw,gk,false⟩])) (by dsimp only;omega) B1 (by (have fa:=(And.intro hT2 (And.intro hT3 hT4));exact C8))
theorem wL (v0:Value) (nums:List Int) (W:World) (w0:BO W v0 nums) (_x0:∀z∈nums,(Lit.int .i64 z).wf=true) :
  Calls Tryz.prog 9 #[v0] W (OF W (.bool true)):=by
 refine T0 (wR nums (NA w0)) ⟨rfl,fun i x y hx hy=> ?_⟩;match i,hx,hy with
 | 0,hx,hy=>simp at hx hy;subst hx hy;exact ER w0
 | n+1,hx,hy=>simp at hx
end Go.Proofs.YthblfhgofopcaaaGreat
