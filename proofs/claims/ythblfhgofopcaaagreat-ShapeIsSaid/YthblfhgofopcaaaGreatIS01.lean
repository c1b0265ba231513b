/-
  Parts of the proof: FrameQ, Frame1Q, FrmSQ, FrmHQ, Ext, RdP, MoreL, RareL, IsP, IsQ, Into, FrmR, WIs.
-/
import Derived.Test.YthblfhgofopcaaaGreatRows
import Derived.Test.YthblfhgofopcaaaGreatSH01
import Derived.ProofKit
import Derived.OpenShut
import Derived.ShutString
import Derived.ChangeOld
import Derived.Below
import Derived.Lib.SmallJoins
import Derived.Deep.Slices
import Derived.Test.YthblfhgofopcaaaGreatSH15
import Derived.Test.YthblfhgofopcaaaGreatSH17
import Derived.Test.YthblfhgofopcaaaGreatSH09
import Derived.Deep.Fields
import Derived.ChangeSame
import Derived.Test.YthblfhgofopcaaaGreatSH08
import Derived.Test.YthblfhgofopcaaaGreatSH13
import Derived.Test.YthblfhgofopcaaaGreatSH14
import Derived.Test.YthblfhgofopcaaaGreatSH46
import Derived.Test.YthblfhgofopcaaaGreatSH41
import Derived.Test.YthblfhgofopcaaaGreatSH42
set_option linter.all false
namespace Go.Proofs.YthblfhgofopcaaaGreat
open Go.RowKit Go.ChangeShapes Go.WideShapes Go.ChangeAt
theorem Rb:ownKnob Tryz.prog.godebug=none:=by kernel_rfl
theorem FH:laidOutB Tryz.prog=true:=by kernel_rfl
theorem WM:Tryz.prog.cellsOf 3=1:=by kernel_rfl
theorem OA {w:World} {x:Addr} {l c:Nat} {zs:List Int} (hl:l≤c) (hm:c≤maxLen) (hz:zs.length=c) (hcell:∀i,i<zs.length→w.cell? (x.add i)=some (.int .i64 (zs.getD i 0))) :
  BO w (.slice (some x) l c) (zs.take l):=by
 refine ⟨some x,c,by rw [List.length_take,Nat.min_eq_left (by omega)],by rw [List.length_take];omega,hm,fun i u hu=> ?_⟩;have hi:=(List.getElem?_eq_some_iff.1 hu).1;simp only [Ke,List.length_map,List.length_take] at hi;have hc:=hcell i (by omega);refine ⟨x,rfl,?_,?_⟩
 ·have:=World.block_lt_of_cell? w _ hc;rwa [Iq] at this
 ·rw [hc,←hu];have h2:i<zs.length:=by omega
  simp [List.getD,h2,show i<l by omega]
section
variable {H:Type} {enc:TypeId×Value→H} {W:World} {spare:Nat→Bool} {held:Bool}
theorem DE {t:TypeId} {fuel:Nat} {v:Value} {x:DataW H×List MemPlace} (ht:Tryz.prog.underlying t=some (.slice 3)) (h:DataW.trod enc Tryz.prog W 0 spare held fuel t [v]=some x) (hs:spare=fun _=>true) :
  ∃zs,BO W v zs∧∀z∈zs,(Lit.int .i64 z).wf=true:=by
 subst hs;rcases open_ints ht Tryz.underlying3 WM h with ⟨hcs,_⟩ | ⟨a,l,c,zs,hcs,_,hl,hm,hz,_,hcell,hwz⟩
 ·simp at hcs;subst hcs;exact ⟨[],BO.nil,by simp⟩
 ·simp at hcs;subst hcs;exact ⟨zs.take l,OA hl hm (by simpa using hz) hcell,fun z hz=>hwz z (List.mem_of_mem_take hz)⟩
end
end Go.Proofs.YthblfhgofopcaaaGreat

namespace Go.Proofs.YthblfhgofopcaaaGreat
open Go.Joins Go.ChangeShapes Go.WideShapes Go.RowKit Go.Deep
set_option maxRecDepth 100000
def cI (W:World):Cx:=⟨W,fun _=>0,fun _=>false,fun _=>False,fun _=>True,W.heap.size⟩
theorem jU (W:World):BH (cI W) (lk [] .nil):=⟨(fun r g sz es h=>by cases h),(fun r g sz es h=>by cases h),(fun r r' g g' sz sz' es es' h=>by cases h)⟩
theorem WA (W:World) {b:Nat} (hb:b<W.heap.size):Dx (cI W) (lk [] .nil) false b:=⟨hb,(by rintro ⟨r,g,sz,es,h,_⟩;cases h), .inr (.inr ⟨rfl,trivial⟩)⟩
theorem Io {W:World} {a:Addr} {u:Value} (h:W.cell? a=some u):a=⟨a.block,a.off,none⟩:=by
 obtain ⟨b,o,sp⟩:=a;cases sp with
 | none=>rfl
 | some k =>
  unfold World.cell? at h;split at h<;>simp at h
theorem ER {W:World} {v:Value} {zs:List Int} (h:BO W v zs):AS (cI W) (lk [] .nil) (AN false zs) v:=by
 obtain ⟨A,c,rfl,h1,h2,h3⟩:=h;cases zs with
 | nil=>exact .slE false 1 A c h2
 | cons z l =>
  obtain ⟨ad,rfl,hb,hc⟩:=h3 0 (.int .i64 z) rfl;have e0:ad.add 0=ad:=rfl;rw [e0] at hc;obtain ⟨b,o,rfl⟩:∃b o,ad=⟨b,o,none⟩:=⟨_,_,Io hc⟩;have hl:(z::l).length=((z::l).map I).length:=by simp
  rw [hl];have dest:∀(i:Nat) (e:AV),((z::l).map I)[i]? =some e→∃y,(z::l)[i]? =some y∧e=I y:=fun i e he=>by
   rw [List.getElem?_map] at he;cases hz:(z::l)[i]? with
   | none=>rw [hz] at he;cases he
   | some y =>
    rw [hz] at he;injection he with he
    exact ⟨y,rfl,he.symm⟩
  refine .sl false 1 ((z::l).map I) b o c (fun i _=> .int .i64 ((z::l).getD i 0)) (by rw [List.length_map];exact h1) h2 (WA W hb) (fun i e he=> ?_) (fun i e j x he hx=> ?_) (fun i e j x he hx=> ?_)
  ·obtain ⟨y,hz,rfl⟩:=dest i e he;rfl
  ·obtain ⟨y,hz,rfl⟩:=dest i e he;obtain ⟨ad',e',hb',hc'⟩:=h3 i (.int .i64 y) (by rw [Ke,List.getElem?_map,hz];rfl);injection e' with e'
   subst e';have hj:j=0:=by
    cases j with
    | zero=>rfl
    | succ j=>simp [AV.cs,I] at hx
   subst hj;rw [Addr.add_lit] at hc';show W.cell? ⟨b,o+i*1+0,none⟩=_;rw [List.getD_eq_getElem?_getD,hz];simpa using hc'
  ·obtain ⟨y,hz,rfl⟩:=dest i e he;have hj:j=0:=by
    cases j with
    | zero=>rfl
    | succ j=>simp [AV.cs,I] at hx
   subst hj;simp [AV.cs,I] at hx;subst hx;rw [List.getD_eq_getElem?_getD,hz];exact .v _
theorem T0 {f:Nat} {ys:List AV} (h:AM Tryz.prog f ys (B true)) {W:World} {vals:Array Value} (hr:QX (cI W) (lk [] .nil) ys vals):Calls Tryz.prog f vals W (OF W (.bool true)):=by
 refine (h.2 (cI W) vals rfl (jU W) hr).mono ?_;rintro e w' ⟨v,x,hl,c',rfl,rfl,⟨rfl,rfl⟩,k,_,rv⟩;have:=As rv;subst this;refine ⟨rfl,?_⟩;exact ⟨k.os,k.tape,k.output,k.size,fun b hb=>k.blk b hb (by rintro ⟨r,g,sz,es,h,_⟩;cases h)⟩
end Go.Proofs.YthblfhgofopcaaaGreat

namespace Go.Proofs.YthblfhgofopcaaaGreat
open Go.Joins Go.ChangeShapes Go.WideShapes Go.RowKit Go.Deep Go.ChangeAt
section
variable {H:Type} {enc:TypeId×Value→H} {P:Program} {w:World} {base:Nat} {spare:Nat→Bool} {held:Bool}
theorem GF {t e:TypeId} {fs:Array Field} {fuel:Nat} {cs:List Value} {x:DataW H×List MemPlace} (ht:P.underlying t=some (.slice e)) (he:P.underlying e=some (.struct fs))
  (hone:oneCellFields P fs=true) (hC:P.cellsOf e=fs.size) (h:DataW.trod enc P w base spare held fuel t cs=some x) :
  (cs=[.slice none 0 0]∧x=(.nil,[]))∨
  ∃(a:Addr) (len cap m:Nat),cs=[.slice (some a) len cap]∧len≤cap∧cap≤maxLen∧m=(if spare a.block then cap else len)∧
   ∀i,i<m→∃(n:Nat),∀(j:Nat) (f:Field),fs[j]? =some f→∃(v:Value) (y:DataW H×List MemPlace),w.cell? (a.add (i*fs.size+j))=some v∧DataW.trod enc P w base spare held n f.type [v]=some y:=by
 rcases open_slice ht h with h0 | ⟨a,len,cap,m,n,D,Pl,hcs,hb,hl,hm,hmm,hx,hi⟩
 ·exact .inl h0
 ·refine .inr ⟨a,len,cap,m,hcs,hl,hm,hmm,fun i him=> ?_⟩;obtain ⟨cs',hc,ht'⟩:=hi i him;rw [hC] at hc;obtain ⟨ys,n',hn',hy,hlen,hyl,hf⟩:=DataW.trod_struct he ht';obtain ⟨_,hcl,hat⟩:=World.cells?_some hc;refine ⟨n',fun j f hj=> ?_⟩;obtain ⟨ho,hk⟩:=hone_of hone j f hj;have hjl:j<fs.size:=(Array.getElem?_eq_some_iff.1 hj).1;have hcell:=hat j hjl;have hv:cs'[j]? =some (cs'[j]'(by omega)):=List.getElem?_eq_getElem (by omega);have h1:=hf j f hj;rw [ho,hk] at h1;have hone' :(cs'.drop j).take 1=[cs'[j]'(by omega)]:=by
   rw [List.drop_eq_getElem_cons (by omega)];rfl
  rw [hone'] at h1;have hys:ys[j]? =some (ys[j]'(by omega)):=List.getElem?_eq_getElem (by omega);refine ⟨_,_,?_,h1.trans hys⟩;rw [←Go.Deep.add_add,hcell,hv]
end
theorem L4 {a:Addr} {n j:Nat} {w:World} {u:Value} (h:w.cell? (a.add (n+j))=some u):w.cell? ⟨(a.add n).block,(a.add n).off+j,none⟩=some u:=by
 have e:=Io h;rw [e] at h;obtain ⟨b,o,sp⟩:=a;have e1:(Addr.add ⟨b,o,sp⟩ (n+j)).block=(Addr.add ⟨b,o,sp⟩ n).block:=by simp only [Addr.add];split<;>split<;>rfl
 have e2:(Addr.add ⟨b,o,sp⟩ (n+j)).off=(Addr.add ⟨b,o,sp⟩ n).off+j:=by simp only [Addr.add];split<;>split<;>simp<;>omega
 rw [e1,e2] at h;exact h
section
variable {H:Type} {enc:TypeId×Value→H} {W:World} {spare:Nat→Bool} {held:Bool}
set_option maxRecDepth 100000 in
theorem Nx {t:TypeId} {fuel:Nat} {v:Value} {x:DataW H×List MemPlace} (ht:Tryz.prog.underlying t=some (.slice 72)) (h:DataW.trod enc Tryz.prog W 0 spare held fuel t [v]=some x) (hs:spare=fun _=>true) :
  ∃l,KD W v l:=by
 subst hs;rcases GF ht Tryz.underlying72 (by kernel_rfl) (by kernel_rfl) h with ⟨hcs,_⟩ | ⟨a,len,cap,m,hcs,hl,hm,hmm,hi⟩
 ·simp at hcs;subst hcs;exact ⟨[],KD.nil⟩
 ·simp at hcs;subst hcs;simp at hmm;rw [hmm] at hi;clear hmm;have hg:∀i:Nat,∃g:Gp,i<cap→W.cell? (a.add (i*3))=some (.int .i64 g.wh)∧W.cell? (a.add (i*3+1))=some (.int .i64 g.kd)∧W.cell? (a.add (i*3+2))=some (.bool g.op):=fun i=>by
   by_cases h:i<cap
   ·obtain ⟨n,hn⟩:=hi i h;obtain ⟨v0,y0,c0,t0⟩:=hn 0 _ rfl;obtain ⟨v1,y1,c1,t1⟩:=hn 1 _ rfl;obtain ⟨v2,y2,c2,t2⟩:=hn 2 _ rfl;obtain ⟨z0,e0,_,_⟩:=DataW.trod_int Tryz.underlying3 t0;obtain rfl:v0= .int .i64 z0:=by simpa using e0
    obtain ⟨z1,e1,_,_⟩:=DataW.trod_int Tryz.underlying3 t1;obtain rfl:v1= .int .i64 z1:=by simpa using e1
    obtain ⟨b,e2,_⟩:=DataW.trod_bool Tryz.underlying4 t2;obtain rfl:v2= .bool b:=by simpa using e2
    exact ⟨⟨z0,z1,b⟩,fun _=>⟨c0,c1,c2⟩⟩
   ·exact ⟨⟨0,0,false⟩,fun h' =>absurd h' h⟩
  obtain ⟨f,hf⟩:=Classical.axiomOfChoice hg;refine ⟨(List.range len).map f,some a,cap,by simp,by simpa using hl,hm,fun i hil=> ?_⟩;have hil' :i<len:=by simpa using hil
  obtain ⟨c0,c1,c2⟩:=hf i (by omega);refine ⟨a,rfl,?_,?_⟩
  ·have:=World.block_lt_of_cell? W _ c0;rwa [Iq] at this
  ·simp only [List.getElem_map,List.getElem_range];exact ⟨c0,L4 c1,L4 c2⟩
end
theorem NA {W:World} {v:Value} {zs:List Int} (h:BO W v zs):zs.length≤9223372036854775807:=by
 obtain ⟨_,_,_,h1,h2,_⟩:=h;unfold maxLen at h2;omega
def wA (g:Gp):Nat→Value
 | 0=> .int .i64 g.wh
 | 1=> .int .i64 g.kd
 | _=> .bool g.op
theorem Ss {W:World} {v:Value} {l:List Gp} (h:KD W v l):AS (cI W) (lk [] .nil) (AX false l) v:=by
 obtain ⟨A,c,rfl,h1,h2,h3⟩:=h;cases l with
 | nil=>exact .slE false 3 A c h2
 | cons z l =>
  obtain ⟨ad,rfl,hb,hc,_,_⟩:=h3 0 (by simp);have e0:ad.add (0*3)=ad:=by rw [Nat.zero_mul];rfl
  rw [e0] at hc;obtain ⟨b,o,rfl⟩:∃b o,ad=⟨b,o,none⟩:=⟨_,_,Io hc⟩;have hl:(z::l).length=((z::l).map AZ).length:=by simp
  rw [hl];have dest:∀(i:Nat) (e:AV),((z::l).map AZ)[i]? =some e→∃y,∃hi:i<(z::l).length,(z::l)[i]=y∧e=AZ y:=fun i e he=>by
   obtain ⟨hi,he⟩:=List.getElem?_eq_some_iff.1 he;rw [List.getElem_map] at he;exact ⟨_,by simpa using hi,rfl,he.symm⟩
  refine .sl false 3 ((z::l).map AZ) b o c (fun i j=>wA ((z::l).getD i z) j) (by rw [List.length_map];exact h1) h2 (WA W hb) (fun i e he=> ?_) (fun i e j x he hx=> ?_) (fun i e j x he hx=> ?_)
  ·obtain ⟨y,_,_,rfl⟩:=dest i e he;rfl
  ·obtain ⟨y,hi,hy,rfl⟩:=dest i e he;obtain ⟨ad',e',hb',c0,c1,c2⟩:=h3 i hi;injection e' with e'
   subst e';have hg:(z::l).getD i z=y:=by rw [List.getD_eq_getElem?_getD,List.getElem?_eq_getElem hi,←hy];rfl
   rw [hy] at c0 c1 c2;rw [hg];rw [Addr.add_lit] at c0 c1 c2;match j,hx with
   | 0,_=>exact c0
   | 1,_=>exact c1
   | 2,_=>exact c2
   | j+3,hx=>simp [AZ,AV.cs] at hx
  ·obtain ⟨y,hi,hy,rfl⟩:=dest i e he;have hg:(z::l).getD i z=y:=by rw [List.getD_eq_getElem?_getD,List.getElem?_eq_getElem hi,←hy];rfl
   rw [hg];match j,hx with
   | 0,hx=>simp [AZ,AV.cs] at hx;subst hx;exact .v _
   | 1,hx=>simp [AZ,AV.cs] at hx;subst hx;exact .v _
   | 2,hx=>simp [AZ,AV.cs] at hx;subst hx;exact .v _
   | j+3,hx=>simp [AZ,AV.cs] at hx
end Go.Proofs.YthblfhgofopcaaaGreat

namespace Go.Proofs.YthblfhgofopcaaaGreat
open Go.RowKit
set_option maxRecDepth 100000
section
variable {inv:Nat→Option Nat} {f:Bool}
@[go_sem] theorem xR (l:List Rg):nobL inv (l.map (Hi f))=true:=Mv (fun m=>by simp only [Hi,AV.nob,nobL,Rl];rfl) l
@[go_sem] theorem xU (m:Rg):(Hi f m).nob inv=true:=by simp only [Hi,AV.nob,nobL,Rl];rfl
end
def wT:List (Nat×List Nat):=[(0,[0,1,2,3,9]),(1,[0,1,2,3,9,24]),(2,[10]),(3,[1,2,3,9,11,12,13,14]),(4,[1,2,3,9,12,13,14,15]),(5,[1,2,3,9,12,13,14,15,16]),(6,[1,2,3,9,12,13,14,15,16,50]),(7,[1,2,3,9,12,13,14,15,16]),(8,[1,2,3,9,12,13,14,15,16]),(9,[1,2,3,12,13,14,15,71]),(10,[10]),(11,[1,2,3,12,13,14,15,17]),(12,[1,2,3,12,13,14,15,17,79]),(13,[10]),(14,[2,3,12,13,14,15,18]),(15,[2,3,12,13,14,15,18]),(16,[2,3,12,13,14,15,18,19,20]),(17,[3,12,13,14,15,18,19,20,105]),(18,[3,12,13,14,15,18,19,20,105,106]),(19,[12,13,14,15,18]),(20,[3,12,13,14,15,18,19,20,105,110]),(21,[12,13,14,15,18]),(22,[3,12,13,14,15,18,19,20,105,118]),(23,[12,13,14,15,18]),(24,[3,12,13,14,15,18,19,20,105,132]),(25,[12,13,14,15,18]),(26,[3,12,13,14,15,18,19,20,105,152]),(27,[12,13,14,15,18]),(28,[12,13,14,15,18,19,168]),(29,[12,13,14,15,18]),(30,[10])]
def xJ:List (Nat×List Nat):=[(0,[0,1]),(1,[0,1]),(2,[0,1,9]),(3,[0]),(4,[4])]
def xG:List (Nat×List Nat):=[(0,[1,3,5,7,9]),(1,[10])]
def xK:List (Nat×List Nat):=[(0,[1,3,5,7,9]),(1,[9,11]),(2,[9,11,12]),(3,[9,11,12,21]),(4,[9,11,12]),(5,[9,11,12,29]),(6,[10]),(7,[10])]
def xB:List (Nat×List Nat):=[(0,[0,1]),(1,[4])]
def xA:List (Nat×List Nat):=[(0,[1,2]),(1,[3])]
def wZ:List (Nat×List Nat):=[(0,[0,1]),(1,[0,1,7,8]),(2,[0,1,7,8,9]),(3,[0,1,5,7,8]),(4,[0,1,5,7,8,16]),(5,[4]),(6,[0,1,7,8]),(7,[4])]
@[go_sem] theorem xZ:Tryz.f11.results.toList=[.tmp 10]:=rfl
@[go_sem] theorem xX:Tryz.f26.results.toList=[.tmp 4]:=rfl
@[go_sem] theorem xY:Tryz.f51.results.toList=[.tmp 10]:=rfl
@[go_sem] theorem x5:Tryz.f52.results.toList=[.tmp 10]:=rfl
@[go_sem] theorem xV:Tryz.f115.results.toList=[.tmp 4]:=rfl
@[go_sem] theorem xW:Tryz.f116.results.toList=[.tmp 3]:=rfl
@[go_sem] theorem xT:Tryz.f155.results.toList=[.tmp 4]:=rfl
def xC:List (Nat×List Nat×List Nat):=[(9,[0,1,2,3,4,6,7,8,9,10,5,11,12],[0,0,0,0,0,31,0,0,0,0,0,2047,4095]),(16,[0,1,2,3,5,6,7,8,9,4,10,11,12],[0,0,2,6,15,0,32,0,128,384,1023,2047,4095]),(23,[0,1,2,3,4,5,6,7,8,9,10,11,12],[0,1,0,0,8,0,56,120,248,504,1023,2047,4095]),(25,[0,1,2,3,4,5,6,7,8,9,10,11,12,13,14,15,16,17,18,19],[0,1,0,0,8,0,0,64,0,448,960,0,2048,0,14336,30720,65479,131015,262143,524287]),(27,[0,1,2,3,4,5,6,7,8,9,10,11,12,13,14],[0,1,0,0,8,0,56,120,248,0,512,2040,4095,8191,16383]),(30,[0,1,2,3,4,6,7,8,9,10,5,11,12,13,14,15,16],[0,0,0,0,0,31,0,0,0,0,0,2047,4095,8191,16383,32767,65535])]
def xP:List (Nat×List Nat×List Nat):=[]
def xQ:List (Nat×List Nat×List Nat):=[]
def xN:List (Nat×List Nat×List Nat):=[(5,[0,1,2,3,4,5],[0,0,3,7,0,31])]
def xM:List (Nat×List Nat×List Nat):=[]
def xL:List (Nat×List Nat×List Nat):=[]
def xH:List (Nat×List Nat×List Nat):=[]
set_option maxHeartbeats 2000000
structure FM (s:AL) (l:List Fm) (h:Hd):Prop where
 f:∀f∈l,f.ks.length≤1000000
 l:l.length≤1000000
 s:s.su.length≤1000000
 m:h.me.length≤1000000
 b:h.bag.length≤1000000
theorem HW {s:AL} {l:List Fm} {h:Hd} (hf:Ch s l h=true):∀f∈l,Az s f=0:=by
 unfold Ch at hf;simp only [Bool.and_eq_true,decide_eq_true_eq] at hf;exact (Ht hf.1).2.2
theorem UK {me:List Gp} {last fm:Int} {c:List Gp}:∀n,∀r∈L2 me last fm c n,r.gs=me++c
 | 0=>fun r hr=>by cases hr
 | n+1=>fun r hr=>by
  rw [L2] at hr;rcases List.mem_append.1 hr with hr | hr
  ·exact UK n r hr
  ·split at hr
   ·simp at hr;subst hr;rfl
   ·cases hr
theorem Ty {A:Fm→List (List Gp)} {me:List Gp} {last:Int} {l:List Fm}:∀n,∀r∈Kn A me last l n,∃f∈l,∃c∈A f,r.gs=me++c
 | 0=>fun r hr=>by cases hr
 | n+1=>fun r hr=>by
  rw [Kn] at hr;rcases List.mem_append.1 hr with hr | hr
  ·exact Ty n r hr
  ·split at hr
   ·cases hr
   ·rename_i f hf;unfold N7 at hr;obtain ⟨c,hc,hr⟩:=List.mem_flatMap.1 hr;exact ⟨f,List.mem_of_getElem? hf,c,hc,UK _ r hr⟩
def Mz (s:AL) (l:List Fm) (h:Hd) (last:Int):List Rg:=GI s h (Hf s h) l last
theorem SA {s:AL} {l:List Fm} {h:Hd} (last:Int) (hl:l.length≤100) (hm:h.me.length≤100):(Mz s l h last).length≤1000000000000∧∀r∈Mz s l h last,r.gs.length≤1000000:=by
 unfold Mz GI;split
 ·rename_i ha;unfold RJ at ha;simp only [Bool.and_eq_true,decide_eq_true_eq] at ha;obtain ⟨⟨⟨⟨c1,c2⟩,_⟩,_⟩,_⟩:=ha;have hA:∀f∈l,Yx s (Hf s h f):=fun f hf=>Nm (HW c1 f hf) c2
  refine ⟨?_,fun r hr=> ?_⟩
  ·have:=Lz (Hf s h) h.me last (fs:=l) (a:=100000) (m:=100) (fun f hf=>⟨(hA f hf).ln,fun c hc=>((hA f hf).w c hc).2.1⟩) l.length;have h2:=Nat.mul_le_mul_right (100000*100) hl;omega
  ·obtain ⟨f,hf,c,hc,e⟩:=Ty _ r hr;have:=((hA f hf).w c hc).2.1;rw [e,List.length_append];omega
 ·exact ⟨by simp,fun r hr=>by cases hr⟩
theorem wQ {s:AL} {l:List Fm} {h:Hd} (last:Int) (S:FM s l h):AM Tryz.prog 28 [AO s,Bh false l,Cb false h,I last] (N0 true (Mz s l h last)) :=
 M5 s h (Hf s h) l last S.f S.l S.s S.m S.b fun hf hu f hm=>⟨Nm (HW hf f hm) hu,LU s f h (HW hf f hm) hu⟩
end Go.Proofs.YthblfhgofopcaaaGreat

namespace Go.Proofs.YthblfhgofopcaaaGreat
theorem xF {me:List Gp} {last fm:Int} {c:List Gp}:∀n,∀r∈L2 me last fm c n,∃j,j<n∧M1 c last j=true∧r=⟨fm,me++c,me.length+j⟩
 | 0=>fun r hr=>by cases hr
 | n+1=>fun r hr=>by
  rw [L2] at hr;rcases List.mem_append.1 hr with hr | hr
  ·obtain ⟨j,h1,h2⟩:=xF n r hr;exact ⟨j,by omega,h2⟩
  ·split at hr
   ·rename_i hh;simp at hr;exact ⟨n,by omega,hh,hr⟩
   ·cases hr
theorem w9 {A:Fm→List (List Gp)} {me:List Gp} {last:Int} {l:List Fm}:∀n,∀r∈Kn A me last l n,∃(k:Nat) (f:Fm) (c:List Gp) (j:Nat),l[k]? =some f∧c∈A f∧j<c.length∧M1 c last j=true∧r=⟨k,me++c,me.length+j⟩
 | 0=>fun r hr=>by cases hr
 | n+1=>fun r hr=>by
  rw [Kn] at hr;rcases List.mem_append.1 hr with hr | hr
  ·exact w9 n r hr
  ·split at hr
   ·cases hr
   ·rename_i f hf;unfold N7 at hr;obtain ⟨c,hc,hr⟩:=List.mem_flatMap.1 hr;obtain ⟨j,h1,h2,h3⟩:=xF _ r hr;exact ⟨n,f,c,j,hf,hc,h1,h2,h3⟩
theorem xD {s:AL} {l:List Fm} {h:Hd} {last:Int}:∀r∈Mz s l h last,∃(k:Nat) (f:Fm) (c:List Gp) (j:Nat),l[k]? =some f∧c∈Hf s h f∧j<c.length∧M1 c last j=true∧r=⟨k,h.me++c,h.me.length+j⟩:=fun r hr=>by
 unfold Mz GI at hr;split at hr
 ·exact w9 _ r hr
 ·cases hr
end Go.Proofs.YthblfhgofopcaaaGreat

namespace Go.Proofs.YthblfhgofopcaaaGreat
open Go.RowKit
set_option maxRecDepth 100000
set_option maxHeartbeats 2000000
def wL (x r:Rg):Bool:=decide (x.fm=r.fm)&&(decide (x.at_=r.at_)&&decide (x.gs=r.gs))
def wS (L:List Rg) (r:Rg):Bool:=L.any fun x=>wL x r
theorem wW {α:Type} {p:α→Bool} {l:List α} {k:Nat} (h:k<l.length):(l.drop k).any p=(p l[k] || (l.drop (k+1)).any p):=by
 rw [List.drop_eq_getElem_cons h,List.any_cons]
section
variable (r:Rg)
theorem xS (x:Rg) (h1:x.gs.length≤1000000):D3 Tryz.prog 116 [Hi false x, .ref 0 0 0 0] [(0, .arr 0 3 [Hi false r])] (B (wL x r)) [(0, .arr 0 3 [Hi false r])]:=by
 have CE:=dE x.gs r.gs h1;unfold wL;obtain ⟨xf,xg,xa⟩:=x;obtain ⟨rf,rg,ra⟩:=r;dsimp only at CE h1 ⊢;obtain ⟨E,hE⟩:∃E,decide (xg=rg)=E:=⟨_,rfl⟩;rw [hE] at CE ⊢;unfold D3;refine FL 1 Tryz.ntmps116 ?_;let tb:=xL;let lv:=xA;(repeat' first | refine zS CE ?_ | refine zQ ?_ | (refine zN ?_;intro K hC hK) | (refine zM ?_;try clear hK hC K) | (refine zC ?_ ?_<;>intro hb) | (refine zK ?_;intro Jo JU JC AH AJ AG))
 all_goals (refine Aa [(0,0)] ?_ ?_<;>(first | exact AK | refine zE ?_);simp_all [B])
theorem xE (L:List Rg) (hl:L.length≤1000000000000) (hL:∀x∈L,x.gs.length≤1000000):Hn Tryz.prog 155 [N0 false L, .clo 116 [.ref 0 0 0 0]] [(0, .arr 0 3 [Hi false r])] (fun k:Int=>I k) (fun _=>[(0, .arr 0 3 [Hi false r])]) (fun k=>decide (0≤k)=wS L r):=by
 unfold Hn;refine FL 1 Tryz.ntmps155 ?_;let tb:=xH;let lv:=wZ;(repeat' first | refine zQ ?_ | (refine zN ?_;intro K hC hK) | (refine zM ?_;try clear hK hC K) | (refine zC ?_ ?_<;>intro hb) | (refine zK ?_;intro Jo JU JC AH AJ AG))
 refine Ab L.length (fun j σ=>(∀i,(hi:i<L.length)→i<j→wL L[i] r=false)∧σ=⟨900,[(0,N0 false L),(1, .clo 116 [.ref 0 0 0 0]),(7,I L.length),(8,I j)],[(0, .arr 0 3 [Hi false r])]⟩) [(0,0)] [(0,0)] 0 [0,1,7,8] 900 zg zg ⟨fun i _ hi=>absurd hi (Nat.not_lt_zero i),by exact zV⟩ ?_;rintro j σ' hj ⟨hR,rfl⟩ J hcJ hJ;by_cases hlt:j<L.length
 ·obtain ⟨x,hx⟩:∃x,L[j]=x:=⟨_,rfl⟩;have C1:=xS r x (hL x (by rw [←hx];exact List.getElem_mem hlt));cases hn:wL x r with
  | true =>
   rw [hn] at C1;(have fa:=hx;(repeat' first | refine zJ (tg [0]) C1 ?_ | refine zQ ?_ | (refine zN ?_;intro K hC hK) | (refine zM ?_;try clear hK hC K) | (refine zC ?_ ?_<;>intro hb) | (refine zK ?_;intro Jo JU JC AH AJ AG))<;>(try clear fa))
   refine Aa [(0,0)] ?_ ?_<;>(first | exact AK | refine zE ?_);refine ⟨(j:Int),?_,rfl⟩;rw [decide_eq_true (by omega)];exact (List.any_eq_true.2 ⟨x,by rw [←hx];exact List.getElem_mem hlt,hn⟩).symm
  | false =>
   rw [hn] at C1;(have fa:=hx;(repeat' first | refine zJ (tg [0]) C1 ?_ | refine zQ ?_ | (refine zN ?_;intro K hC hK) | (refine zM ?_;try clear hK hC K) | (refine zC ?_ ?_<;>intro hb) | (refine zK ?_;intro Jo JU JC AH AJ AG))<;>(try clear fa))
   refine hJ _ hlt ⟨fun i hi h2=> ?_,by exact zV⟩;by_cases e:i=j
   ·subst e;rw [hx];exact hn
   ·exact hR i hi (by omega)
 ·(repeat' first | refine zQ ?_ | (refine zN ?_;intro K hC hK) | (refine zM ?_;try clear hK hC K) | (refine zC ?_ ?_<;>intro hb) | (refine zK ?_;intro Jo JU JC AH AJ AG))
  refine Aa [(0,0)] ?_ ?_<;>(first | exact AK | refine zE ?_);refine ⟨-1,?_,rfl⟩;rw [decide_eq_false (by omega)];refine (List.any_eq_false.2 fun f hf=> ?_).symm;obtain ⟨i,hi,rfl⟩:=List.mem_iff_getElem.1 hf;have:=hR i hi (by omega);simp [this]
theorem xI (L:List Rg) (hl:L.length≤1000000000000) (hL:∀x∈L,x.gs.length≤1000000):D3 Tryz.prog 115 [N0 false L, .clo 116 [.ref 0 0 0 0]] [(0, .arr 0 3 [Hi false r])] (B (wS L r)) [(0, .arr 0 3 [Hi false r])]:=by
 have CI:=xE r L hl hL;unfold D3;refine FL 1 Tryz.ntmps115 ?_;let tb:=xM;let lv:=xB;(repeat' first | refine zQ ?_ | (refine zN ?_;intro K hC hK) | (refine zM ?_;try clear hK hC K) | (refine zC ?_ ?_<;>intro hb) | (refine zK ?_;intro Jo JU JC AH AJ AG))
 (refine zX (tg [0]) (CI) ?_;clear AH AJ AG Jo JU JC);intro xr hxr;(repeat' first | refine zQ ?_ | (refine zN ?_;intro K hC hK) | (refine zM ?_;try clear hK hC K) | (refine zC ?_ ?_<;>intro hb) | (refine zK ?_;intro Jo JU JC AH AJ AG))
 refine Aa [(0,0)] ?_ ?_<;>(first | exact AK | refine zE ?_);rw [←hxr]
theorem wX {s:AL} {l:List Fm} {h:Hd} (last:Int) (S:FM s l h) (hl:l.length≤100) (hm:h.me.length≤100):AM Tryz.prog 51 [AO s,Bh false l,Cb false h,I last,Hi false r] (B (wS (Mz s l h last) r)):=by
 have CR:=wQ last S;obtain ⟨p1,p2⟩:=SA (s:=s) (l:=l) (h:=h) last hl hm;obtain ⟨L,hL⟩:∃L,Mz s l h last=L:=⟨_,rfl⟩;rw [hL] at CR p1 p2 ⊢;have CC:=xI r L p1 p2;refine zb Tryz.ntmps51 ?_;let tb:=xQ;let lv:=xG;(repeat' first | refine zS CR ?_ | refine zJ (tg [32]) CC ?_ | refine zQ ?_ | (refine zN ?_;intro K hC hK) | (refine zM ?_;try clear hK hC K) | (refine zC ?_ ?_<;>intro hb) | (refine zK ?_;intro Jo JU JC AH AJ AG))
 refine Aa [] ?_ ?_<;>(first | exact AK | refine zE ?_)
end
theorem wO (x r:Rg) (h1:x.gs.length≤1000000):AM Tryz.prog 86 [Hi false x,Hi false r] (B (wL x r)):=by
 have CG:=FO x.gs r.gs h1;unfold wL;obtain ⟨xf,xg,xa⟩:=x;obtain ⟨rf,rg,ra⟩:=r;dsimp only at CG h1 ⊢;obtain ⟨E,hE⟩:∃E,decide (xg=rg)=E:=⟨_,rfl⟩;rw [hE] at CG ⊢;refine zb Tryz.ntmps86 ?_;let tb:=fH;let lv:=Z8;(repeat' first | refine zS CG ?_ | refine zQ ?_ | (refine zN ?_;intro K hC hK) | (refine zM ?_;try clear hK hC K) | (refine zC ?_ ?_<;>intro hb) | (refine zK ?_;intro Jo JU JC AH AJ AG))
 all_goals (refine Aa [] ?_ ?_<;>(first | exact AK | refine zE ?_);simp_all)
theorem wM {s:AL} {l:List Fm} {h:Hd} (last:Int) (S:FM s l h):AM Tryz.prog 29 [AO s,Bh false l,Cb false h,I last] (N0 false (Mz s l h last)) :=
 NK s h (Hf s h) l last S.f S.l S.s S.m S.b fun hf hu f hm=>⟨Nm ((Ht hf).2.2 f hm) hu,Kp s f h ((Ht hf).2.2 f hm) hu⟩
theorem w7 {s:AL} {l:List Fm} {h:Hd} (last:Int) (r:Rg) (S:FM s l h) (hl:l.length≤100) (hm:h.me.length≤100):AM Tryz.prog 52 [AO s,Bh false l,Cb false h,I last,Hi false r] (B (wS (Mz s l h last) r)):=by
 have CR:=wM last S;obtain ⟨p1,p2⟩:=SA (s:=s) (l:=l) (h:=h) last hl hm;obtain ⟨L,hL⟩:∃L,Mz s l h last=L:=⟨_,rfl⟩;rw [hL] at CR p1 p2 ⊢;unfold wS;refine zb Tryz.ntmps52 ?_;let tb:=xN;let lv:=xK;(repeat' first | refine zS CR ?_ | refine zQ ?_ | (refine zN ?_;intro K hC hK) | (refine zM ?_;try clear hK hC K) | (refine zC ?_ ?_<;>intro hb) | (refine zK ?_;intro Jo JU JC AH AJ AG))
 refine Ab L.length (fun k σ=>(L.any fun x=>wL x r)=((L.drop k).any fun x=>wL x r)∧σ=⟨900,[(9, .ref 0 0 0 0),(11,N0 false L),(12,I k)],[(0, .arr 0 3 [Hi false r])]⟩) [(32,0)] [(0,0)] 0 [9,11,12] 900 zf zf ⟨rfl,by exact zV⟩ ?_;rintro k σ' hk ⟨hR,rfl⟩ J hcJ hJ;by_cases h:k<L.length
 ·have hd:=wW (p:=fun x=>wL x r) h;obtain ⟨x,hx⟩:∃x,L[k]=x:=⟨_,rfl⟩;have C1:=wO x r (p2 x (by rw [←hx];exact List.getElem_mem h));rw [hx] at hd;cases f:wL x r with
  | true =>
   rw [f] at C1;rw [hR,hd,f];(have fa:=hx;(repeat' first | refine zS C1 ?_ | refine zQ ?_ | (refine zN ?_;intro K hC hK) | (refine zM ?_;try clear hK hC K) | (refine zC ?_ ?_<;>intro hb) | (refine zK ?_;intro Jo JU JC AH AJ AG))<;>(try clear fa))
   refine Aa [] ?_ ?_<;>(first | exact AK | refine zE ?_);simp
  | false =>
   rw [f] at C1;(have fa:=hx;(repeat' first | refine zS C1 ?_ | refine zQ ?_ | (refine zN ?_;intro K hC hK) | (refine zM ?_;try clear hK hC K) | (refine zC ?_ ?_<;>intro hb) | (refine zK ?_;intro Jo JU JC AH AJ AG))<;>(try clear fa))
   exact hJ _ h ⟨by rw [hR,hd,f];rfl,by exact zV⟩
 ·obtain rfl:k=L.length:=by omega
  (repeat' first | refine zQ ?_ | (refine zN ?_;intro K hC hK) | (refine zM ?_;try clear hK hC K) | (refine zC ?_ ?_<;>intro hb) | (refine zK ?_;intro Jo JU JC AH AJ AG))
  refine Aa [] ?_ ?_<;>(first | exact AK | refine zE ?_);rw [hR,List.drop_length];rfl
theorem wK (n m:Int) (h0:0<m) (h1:m≤1000000000):AM Tryz.prog 26 [I n,I m] (I (n % m)):=by
 have hm:=Int.emod_nonneg n (show m≠0 by omega);have hl:=Int.emod_lt_of_pos n h0;have ht:n.tmod m=n % m∨(n.tmod m<0∧n.tmod m+m=n % m):=by
  rw [Int.tmod_eq_emod];split
  ·left;omega
  ·right;have:(m.natAbs:Int)=m:=by omega
   rw [this];omega
 obtain ⟨z,hz⟩:∃z,n.tmod m=z:=⟨_,rfl⟩;obtain ⟨y,hy⟩:∃y,n % m=y:=⟨_,rfl⟩;rw [hz,hy] at ht;rw [hy] at hm hl ⊢;have hne:¬m=0:=by omega
 refine zb Tryz.ntmps26 ?_;let tb:=xP;let lv:=xJ;(have fa:=hz;(repeat' first | refine zQ ?_ | (refine zN ?_;intro K hC hK) | (refine zM ?_;try clear hK hC K) | (refine zC ?_ ?_<;>intro hb) | (refine zK ?_;intro Jo JU JC AH AJ AG))<;>(try clear fa))
 ·obtain rfl:y=z+m:=by omega
  refine Aa [] ?_ ?_<;>(first | exact AK | refine zE ?_)
 ·obtain rfl:y=z:=by omega
  refine Aa [] ?_ ?_<;>(first | exact AK | refine zE ?_)
end Go.Proofs.YthblfhgofopcaaaGreat

namespace Go.Proofs.YthblfhgofopcaaaGreat
open Go.ChangeShapes Go.WideShapes Go.ChangeAt Go.RowKit
def xO (W:World) (v:Value) (r:Rg):Prop:=∃b,v= .agg #[.int .i64 r.fm,b, .int .i64 r.at_]∧KD W b r.gs
section
variable {H:Type} {enc:TypeId×Value→H} {W:World} {spare:Nat→Bool} {held:Bool}
set_option maxRecDepth 100000 in
theorem wP {r:Reach} {b0:Nat} {v:Value} {d:DataW H} {p:List MemPlace} (hv:Value.okWide Tryz.prog W r b0 58 v) (h:DataW.Trod enc Tryz.prog W 0 spare held 58 v d p) (hs:spare=fun _=>true) :
  ∃x:Rg,xO W v x:=by
 obtain ⟨v0,v1,v2,y0,y1,y2,n,rfl,_,_,t0,t1,t2⟩:=Go.Joins.open_agg3 Tryz.underlying58 (by kernel_rfl) (by kernel_rfl) hv h;obtain ⟨z0,e0,_,_⟩:=DataW.trod_int Tryz.underlying3 t0;obtain rfl:v0= .int .i64 z0:=by simpa using e0
 obtain ⟨l,i2⟩:=Nx Tryz.underlying29 t1 hs;obtain ⟨z2,e2,_,_⟩:=DataW.trod_int Tryz.underlying3 t2;obtain rfl:v2= .int .i64 z2:=by simpa using e2
 exact ⟨⟨z0,l,z2⟩,v1,rfl,i2⟩
end
theorem wV {W:World} {v:Value} {x:Rg} (h:xO W v x):AS (cI W) (lk [] .nil) (Hi false x) v:=by
 obtain ⟨b,rfl,h2⟩:=h;refine .agg _ _ rfl fun i x y hx hy=> ?_
 match i,hx,hy with
 | 0,hx,hy=>simp at hx hy;subst hx hy;exact .v _
 | 1,hx,hy=>simp at hx hy;subst hx hy;exact Ss h2
 | 2,hx,hy=>simp at hx hy;subst hx hy;exact .v _
 | n+3,hx,hy=>simp at hx
end Go.Proofs.YthblfhgofopcaaaGreat

namespace Go.Proofs.YthblfhgofopcaaaGreat
open Go.RowKit
set_option maxRecDepth 100000
set_option maxHeartbeats 2000000
theorem wN (n:Int) {m:Nat} (h:0<m):∃i:Nat,n % (m:Int)=i∧i<m:=by
 have h0:=Int.emod_nonneg n (b:=(m:Int)) (by omega);have h1:=Int.emod_lt_of_pos n (b:=(m:Int)) (by omega);exact ⟨(n % (m:Int)).toNat,by omega,by omega⟩
theorem wU {s:AL} {l:List Fm} {h:Hd} {last:Int} (hl:l.length≤3):(Mz s l h last).length≤30000000:=by
 unfold Mz GI;split
 ·rename_i ha;unfold RJ at ha;simp only [Bool.and_eq_true,decide_eq_true_eq] at ha;obtain ⟨⟨⟨⟨c1,c2⟩,_⟩,_⟩,_⟩:=ha;have hA:∀f∈l,Yx s (Hf s h f):=fun f hf=>Nm (HW c1 f hf) c2
  have:=Lz (Hf s h) h.me last (fs:=l) (a:=100000) (m:=100) (fun f hf=>⟨(hA f hf).ln,fun c hc=>((hA f hf).w c hc).2.1⟩) l.length;have h2:=Nat.mul_le_mul_right (100000*100) hl;omega
 ·simp
set_option maxHeartbeats 64000000 in
theorem wY (nums:List Int) (which at_ byy:Int) (r:Rg) (hn:nums.length≤9223372036854775807):AM Tryz.prog 11 [AN false nums,I which,I at_,I byy,Hi false r] (B true):=by
 obtain ⟨rf,rg,ra⟩:=r;by_cases h20:20<rg.length
 ·refine zb Tryz.ntmps11 ?_;let tb:=xC;let lv:=wT;(repeat' first | refine zS Gy ?_ | refine zQ ?_ | (refine zN ?_;intro K hC hK) | (refine zM ?_;try clear hK hC K) | (refine zC ?_ ?_<;>intro hb) | (refine zK ?_;intro Jo JU JC AH AJ AG))
  refine Aa [] ?_ ?_<;>(first | exact AK | refine zE ?_)
 refine zb Tryz.ntmps11 ?_;let tb:=xC;let lv:=wT;(repeat' first | refine zQ ?_ | (refine zN ?_;intro K hC hK) | (refine zM ?_;try clear hK hC K) | (refine zC ?_ ?_<;>intro hb) | (refine zK ?_;intro Jo JU JC AH AJ AG))
 (refine zX (tg []) (Tu nums hn) ?_;clear AH AJ AG Jo JU JC);intro xr hxr;have V:=hxr.made.ok;have hxl:=hxr.xl;have hpl:=(A7 V).2.2.2;have hfull:=hxr.full;have hfo:=hxr.fo;have hf1:=hxr.f1;have hf3:=hxr.f3;obtain ⟨y,t,fs,ms,X,g0⟩:=xr;dsimp only at V hxl hpl hfull hfo hf1 hf3 ⊢;have ho:G5 t ⟨X,ms⟩:=DP (by unfold Am at hfull;simp at hfull;exact hfull.1);have hmm:=ho.mm;have hlo:=ho.lo;have hme:=(AU V).me;have hsu3:=(AU V).su3;dsimp only at hmm hlo;have hTX:List.take X.length X=X:=List.take_length;have hX0:0<X.length:=by
  rcases Nat.eq_zero_or_pos X.length with h | h
  ·have:X=[]:=List.eq_nil_of_length_eq_zero h;rw [this] at hlo;simp at hlo;omega
  ·exact h
 have hfs1:∀f∈fs,f.ks.length≤1000000:=fun f hf=>by have:=(hfo f hf).2;omega
 have S:FM t fs ⟨X,ms⟩:=⟨hfs1,by omega,by omega,by dsimp only;omega,by dsimp only;omega⟩;have b1:=Av (x:=y) (n:=X.length) (by omega) (by omega);obtain ⟨z0,hz0,hz1⟩:∃z0:Nat,BC y X.length=z0∧z0<X.length:=⟨(BC y X.length).toNat,by omega,by omega⟩;have CB:=BI y X.length (by omega);rw [hz0] at CB;clear hxr;(have fa:=(And.intro @Af.eq_1 hTX);(repeat' first | refine zJ (tg [112]) CB ?_ | refine zQ ?_ | (refine zN ?_;intro K hC hK) | (refine zM ?_;try clear hK hC K) | (refine zC ?_ ?_<;>intro hb) | (refine zK ?_;intro Jo JU JC AH AJ AG))<;>(try clear fa))
 refine At (α:=Nat×Nat) (fun a=>[(1,I which),(2,I at_),(3,I byy),(9, .ref 0 0 0 0),(12, .ref 1 0 0 0),(13,Bh false fs),(14, .ref 2 0 0 0),(15,I a.1),(16,I a.2)]) (fun _=>[(0, .arr 0 3 [Hi false ⟨rf,rg,ra⟩]),(1, .arr 0 9 [AO t]),(2, .arr 0 2 [.agg [AN true X,AX false ms]])])
  (fun a=>X.length-a.2) (fun a=>a.1<X.length∧a.2≤X.length) [(0,0),(208,1),(224,2)] [(0,0),(1,1),(2,2)] 1 [1,2,3,9,12,13,14,15,16] 900 zf zf (z0,0) ⟨hz1,Nat.zero_le _⟩ (by (have fa:=hTX;exact C8)) ?_
 rintro ⟨z,k⟩ ⟨hz,hk⟩ J hcJ hJ;dsimp only at hz hk hJ ⊢;obtain ⟨e,he⟩:∃e,X[z]=e:=⟨_,rfl⟩;by_cases hc:k<X.length∧e=0
 ·obtain ⟨hk1,rfl⟩:=hc;obtain ⟨z2,h2,h3⟩:=wN ((z:Int)+1) hX0;have CI:=wK ((z:Int)+1) X.length (by omega) (by omega);rw [h2] at CI;(have fa:=(And.intro he hTX);(repeat' first | refine zS CI ?_ | refine zQ ?_ | (refine zN ?_;intro K hC hK) | (refine zM ?_;try clear hK hC K) | (refine zC ?_ ?_<;>intro hb) | (refine zK ?_;intro Jo JU JC AH AJ AG))<;>(try clear fa))
  exact hJ _ (z2,k+1) (by dsimp only;omega) ⟨h3,by dsimp only;omega⟩ (by (have fa:=hTX;exact C8))
 have qPI:=fun r' =>wX (s:=t) (l:=fs) (h:=⟨X,ms⟩) r' z S (by omega) (by dsimp only;omega)
 have qQI:=fun r' =>w7 (s:=t) (l:=fs) (h:=⟨X,ms⟩) z r' S (by omega) (by dsimp only;omega)
 have qQR:=wM (s:=t) (l:=fs) (h:=⟨X,ms⟩) z S;obtain ⟨p1,p2⟩:=SA (s:=t) (l:=fs) (h:=⟨X,ms⟩) z (by omega) (by dsimp only;omega);have p3:=wU (s:=t) (l:=fs) (h:=⟨X,ms⟩) (last:=z) hf3;have hrd:=xD (s:=t) (l:=fs) (h:=⟨X,ms⟩) (last:=z);obtain ⟨L,hL⟩:∃L,Mz t fs ⟨X,ms⟩ z=L:=⟨_,rfl⟩;rw [hL] at qQR p1 p2 p3 hrd;simp only [hL] at qPI qQI;clear hL;have qP0:=qPI ⟨rf,rg,ra⟩;have qQ0:=qQI ⟨rf,rg,ra⟩;obtain ⟨b0,hb0⟩:∃b,wS L ⟨rf,rg,ra⟩=b:=⟨_,rfl⟩;rw [hb0] at qP0 qQ0;clear hb0;by_cases hL0:L.length=0
 ·by_cases hk1:k<X.length;all_goals
   (have fa:=(And.intro he (And.intro hTX (And.intro @bne_self_eq_false.{0} @Ay)));(repeat' first | refine zS qP0 ?_ | refine zS qQ0 ?_ | refine zS qQR ?_ | refine zS Gy ?_ | refine zQ ?_ | (refine zN ?_;intro K hC hK) | (refine zM ?_;try clear hK hC K) | (refine zC ?_ ?_<;>intro hb) | (refine zK ?_;intro Jo JU JC AH AJ AG))<;>(try clear fa))
   refine Aa [] ?_ ?_<;>(first | exact AK | refine zE ?_)
 obtain ⟨i0,hi0,hi1⟩:=wN which (m:=L.length) (by omega);have C1:=wK which L.length (by omega) (by omega);rw [hi0] at C1;obtain ⟨x,hx⟩:∃x,L[i0]=x:=⟨_,rfl⟩;have hxm:x∈L:=by rw [←hx];exact List.getElem_mem _
 have hx1:=p2 x hxm;have hx0:0<x.gs.length:=by
  obtain ⟨q,f,c,j,_,_,e3,_,e5⟩:=hrd x hxm;rw [e5];dsimp only;rw [List.length_append];omega
 clear hrd p2 hxm;obtain ⟨xf,xg,xa⟩:=x;dsimp only at hx0 hx1;obtain ⟨w8,hw8⟩:∃w,IntKind.i64.wrap (at_.tdiv 8)=w:=⟨_,rfl⟩;obtain ⟨i,hi2,hi3⟩:=wN byy hx0;obtain ⟨m,hm2,hm3⟩:=wN w8 hx0;have C2:=wK byy xg.length (by omega) (by omega);have C3:=wK w8 xg.length (by omega) (by omega);have C4:=wK at_ 8 (by omega) (by omega);rw [hi2] at C2;rw [hm2] at C3;have h8:at_ % 8=0∨at_ % 8=1∨at_ % 8=2∨at_ % 8=3∨at_ % 8=4∨at_ % 8=5∨at_ % 8=6∨at_ % 8=7:=by omega
 obtain ⟨qa8,ha8⟩:∃a,at_ % 8=a:=⟨_,rfl⟩;rw [ha8] at C4 h8;have hTg:List.take xg.length xg=xg:=List.take_length;obtain ⟨gm,hgm⟩:∃g,xg[m]=g:=⟨_,rfl⟩;obtain ⟨gi,hgi⟩:∃g,xg[i]=g:=⟨_,rfl⟩;by_cases hk1:k<X.length;all_goals
  (have fa:=(And.intro he (And.intro hx (And.intro hw8 (And.intro hTX (And.intro hTg (And.intro @bne_self_eq_false.{0} @Ay))))));(repeat' first | refine zS qP0 ?_ | refine zS qQ0 ?_ | refine zS qQR ?_ | refine zS C1 ?_ | refine zS C2 ?_ | refine zS C3 ?_ | refine zQ ?_ | (refine zN ?_;intro K hC hK) | (refine zM ?_;try clear hK hC K) | (refine zC ?_ ?_<;>intro hb) | (refine zK ?_;intro Jo JU JC AH AJ AG))<;>(try clear fa))
  clear qP0 qQ0 qQR C1 C2 C3;rcases h8 with rfl | rfl | rfl | rfl | rfl | rfl | rfl | rfl
  ·
   have P1:=qPI ⟨xf,xg,i⟩;have qQ1:=qQI ⟨xf,xg,i⟩;obtain ⟨b2,hb2⟩:∃b,wS L ⟨xf,xg,i⟩=b:=⟨_,rfl⟩;rw [hb2] at P1 qQ1;clear hb2 qPI qQI;(have fa:=(And.intro hTX (And.intro hTg (And.intro hTg (And.intro (@beq_self_eq_true Bool _ _) (And.intro @bne_self_eq_false.{0} @Ay)))));(repeat' first | refine zS C4 ?_ | refine zS P1 ?_ | refine zS qQ1 ?_ | refine zS Gy ?_ | refine zQ ?_ | (refine zN ?_;intro K hC hK) | (refine zM ?_;try clear hK hC K) | (refine zC ?_ ?_<;>intro hb) | (refine zK ?_;intro Jo JU JC AH AJ AG))<;>(try clear fa))
   refine Aa [] ?_ ?_<;>(first | exact AK | refine zE ?_)
  ·obtain ⟨w3,hw3⟩:∃w,IntKind.i64.wrap (xf+byy.tmod 3)=w:=⟨_,rfl⟩;have P1:=qPI ⟨w3,xg,xa⟩;have qQ1:=qQI ⟨w3,xg,xa⟩;obtain ⟨b2,hb2⟩:∃b,wS L ⟨w3,xg,xa⟩=b:=⟨_,rfl⟩;rw [hb2] at P1 qQ1;clear hb2 qPI qQI;(have fa:=(And.intro hTX (And.intro hTg (And.intro hw3 (And.intro (@beq_self_eq_true Bool _ _) (And.intro @bne_self_eq_false.{0} @Ay)))));(repeat' first | refine zS C4 ?_ | refine zS P1 ?_ | refine zS qQ1 ?_ | refine zS Gy ?_ | refine zQ ?_ | (refine zN ?_;intro K hC hK) | (refine zM ?_;try clear hK hC K) | (refine zC ?_ ?_<;>intro hb) | (refine zK ?_;intro Jo JU JC AH AJ AG))<;>(try clear fa))
   refine Aa [] ?_ ?_<;>(first | exact AK | refine zE ?_)
  ·obtain ⟨gw,gk,go⟩:=gm;have hs1:(xg.map AZ).set m (.agg [I gw,I gk,B (!go)])=(xg.set m ⟨gw,gk,!go⟩).map AZ:=by rw [List.map_set];rfl
   have hs2:(xg.set m ⟨gw,gk,!go⟩).length=xg.length:=List.length_set ..;have hs3:List.take xg.length (xg.set m ⟨gw,gk,!go⟩)=xg.set m ⟨gw,gk,!go⟩:=List.take_of_length_le (by omega);have P1:=qPI ⟨xf,xg.set m ⟨gw,gk,!go⟩,xa⟩;have qQ1:=qQI ⟨xf,xg.set m ⟨gw,gk,!go⟩,xa⟩;obtain ⟨b2,hb2⟩:∃b,wS L ⟨xf,xg.set m ⟨gw,gk,!go⟩,xa⟩=b:=⟨_,rfl⟩;rw [hb2] at P1 qQ1;clear hb2 qPI qQI;(have fa:=(And.intro hTX (And.intro hTg (And.intro hgm (And.intro hs1 (And.intro hs2 (And.intro hs3 (And.intro (@beq_self_eq_true Bool _ _) (And.intro @bne_self_eq_false.{0} @Ay))))))));(repeat' first | refine zS C4 ?_ | refine zS P1 ?_ | refine zS qQ1 ?_ | refine zS Gy ?_ | refine zQ ?_ | (refine zN ?_;intro K hC hK) | (refine zM ?_;try clear hK hC K) | (refine zC ?_ ?_<;>intro hb) | (refine zK ?_;intro Jo JU JC AH AJ AG))<;>(try clear fa))
   refine Aa [] ?_ ?_<;>(first | exact AK | refine zE ?_)
  ·have hs1:(xg.map AZ).set m (AZ gi)=(xg.set m gi).map AZ:=by rw [List.map_set]
   have hs2:(xg.set m gi).length=xg.length:=List.length_set ..;have hs3:((xg.set m gi).map AZ).set i (AZ gm)=((xg.set m gi).set i gm).map AZ:=(List.map_set ..).symm;have hs4:((xg.set m gi).set i gm).length=xg.length:=by rw [List.length_set,hs2]
   have hs5:List.take xg.length ((xg.set m gi).set i gm)=(xg.set m gi).set i gm:=List.take_of_length_le (by omega);have P1:=qPI ⟨xf,(xg.set m gi).set i gm,xa⟩;have qQ1:=qQI ⟨xf,(xg.set m gi).set i gm,xa⟩;obtain ⟨b2,hb2⟩:∃b,wS L ⟨xf,(xg.set m gi).set i gm,xa⟩=b:=⟨_,rfl⟩;rw [hb2] at P1 qQ1;clear hb2 qPI qQI;(have fa:=(And.intro hTX (And.intro hTg (And.intro hgm (And.intro hgi (And.intro hs1 (And.intro hs2 (And.intro hs3 (And.intro hs4 (And.intro hs5 (And.intro (@beq_self_eq_true Bool _ _) (And.intro @bne_self_eq_false.{0} @Ay)))))))))));(repeat' first | refine zS C4 ?_ | refine zS P1 ?_ | refine zS qQ1 ?_ | refine zS Gy ?_ | refine zQ ?_ | (refine zN ?_;intro K hC hK) | (refine zM ?_;try clear hK hC K) | (refine zC ?_ ?_<;>intro hb) | (refine zK ?_;intro Jo JU JC AH AJ AG))<;>(try clear fa))
   refine Aa [] ?_ ?_<;>(first | exact AK | refine zE ?_)
  ·obtain ⟨gw,gk,go⟩:=gm;obtain ⟨w4,hw4⟩:∃w,IntKind.i64.wrap (gk+byy.tmod 2)=w:=⟨_,rfl⟩;have hs1:(xg.map AZ).set m (.agg [I gw,I w4,B go])=(xg.set m ⟨gw,w4,go⟩).map AZ:=by rw [List.map_set];rfl
   have hs2:(xg.set m ⟨gw,w4,go⟩).length=xg.length:=List.length_set ..;have hs3:List.take xg.length (xg.set m ⟨gw,w4,go⟩)=xg.set m ⟨gw,w4,go⟩:=List.take_of_length_le (by omega);have P1:=qPI ⟨xf,xg.set m ⟨gw,w4,go⟩,xa⟩;have qQ1:=qQI ⟨xf,xg.set m ⟨gw,w4,go⟩,xa⟩;obtain ⟨b2,hb2⟩:∃b,wS L ⟨xf,xg.set m ⟨gw,w4,go⟩,xa⟩=b:=⟨_,rfl⟩;rw [hb2] at P1 qQ1;clear hb2 qPI qQI;(have fa:=(And.intro hTX (And.intro hTg (And.intro hgm (And.intro hw4 (And.intro hs1 (And.intro hs2 (And.intro hs3 (And.intro (@beq_self_eq_true Bool _ _) (And.intro @bne_self_eq_false.{0} @Ay)))))))));(repeat' first | refine zS C4 ?_ | refine zS P1 ?_ | refine zS qQ1 ?_ | refine zS Gy ?_ | refine zQ ?_ | (refine zN ?_;intro K hC hK) | (refine zM ?_;try clear hK hC K) | (refine zC ?_ ?_<;>intro hb) | (refine zK ?_;intro Jo JU JC AH AJ AG))<;>(try clear fa))
   refine Aa [] ?_ ?_<;>(first | exact AK | refine zE ?_)
  ·have e1:((i:Int)-0).toNat=i:=by omega
   have e2:i≤xg.length:=by omega
   have P1:=qPI ⟨xf,xg.take i,xa⟩;have qQ1:=qQI ⟨xf,xg.take i,xa⟩;obtain ⟨b2,hb2⟩:∃b,wS L ⟨xf,xg.take i,xa⟩=b:=⟨_,rfl⟩;rw [hb2] at P1 qQ1;clear hb2 qPI qQI;(have fa:=(And.intro hTX (And.intro hTg (And.intro e1 (And.intro e2 (And.intro (@beq_self_eq_true Bool _ _) (And.intro @bne_self_eq_false.{0} @Ay))))));(repeat' first | refine zS C4 ?_ | refine zS P1 ?_ | refine zS qQ1 ?_ | refine zS Gy ?_ | refine zQ ?_ | (refine zN ?_;intro K hC hK) | (refine zM ?_;try clear hK hC K) | (refine zC ?_ ?_<;>intro hb) | (refine zK ?_;intro Jo JU JC AH AJ AG))<;>(try clear fa))
   refine Aa [] ?_ ?_<;>(first | exact AK | refine zE ?_)
  ·
   have P1:=qPI ⟨xf,xg,xa⟩;have qQ1:=qQI ⟨xf,xg,xa⟩;obtain ⟨b2,hb2⟩:∃b,wS L ⟨xf,xg,xa⟩=b:=⟨_,rfl⟩;rw [hb2] at P1 qQ1;clear hb2 qPI qQI;(have fa:=(And.intro hTX (And.intro hTg (And.intro hTg (And.intro (@beq_self_eq_true Bool _ _) (And.intro @bne_self_eq_false.{0} @Ay)))));(repeat' first | refine zS C4 ?_ | refine zS P1 ?_ | refine zS qQ1 ?_ | refine zS Gy ?_ | refine zQ ?_ | (refine zN ?_;intro K hC hK) | (refine zM ?_;try clear hK hC K) | (refine zC ?_ ?_<;>intro hb) | (refine zK ?_;intro Jo JU JC AH AJ AG))<;>(try clear fa))
   refine Aa [] ?_ ?_<;>(first | exact AK | refine zE ?_)
  ·
   have P1:=qPI ⟨xf,xg,xa⟩;have qQ1:=qQI ⟨xf,xg,xa⟩;obtain ⟨b2,hb2⟩:∃b,wS L ⟨xf,xg,xa⟩=b:=⟨_,rfl⟩;rw [hb2] at P1 qQ1;clear hb2 qPI qQI;(have fa:=(And.intro hTX (And.intro hTg (And.intro hTg (And.intro (@beq_self_eq_true Bool _ _) (And.intro @bne_self_eq_false.{0} @Ay)))));(repeat' first | refine zS C4 ?_ | refine zS P1 ?_ | refine zS qQ1 ?_ | refine zS Gy ?_ | refine zQ ?_ | (refine zN ?_;intro K hC hK) | (refine zM ?_;try clear hK hC K) | (refine zC ?_ ?_<;>intro hb) | (refine zK ?_;intro Jo JU JC AH AJ AG))<;>(try clear fa))
   refine Aa [] ?_ ?_<;>(first | exact AK | refine zE ?_)
theorem wR (v0:Value) (nums:List Int) (which at_ byy:Int) (v4:Value) (r:Rg) (W:World) (w0:BO W v0 nums) (_x0:∀z∈nums,(Lit.int .i64 z).wf=true) (_w1:(Lit.int .i64 which).wf=true) (_w2:(Lit.int .i64 at_).wf=true) (_w3:(Lit.int .i64 byy).wf=true) (w4:xO W v4 r) :
  Calls Tryz.prog 11 #[v0, .int .i64 which, .int .i64 at_, .int .i64 byy,v4] W (OF W (.bool true)):=by
 refine T0 (wY nums which at_ byy r (NA w0)) ⟨rfl,fun i x y hx hy=> ?_⟩;match i,hx,hy with
 | 0,hx,hy=>simp at hx hy;subst hx hy;exact ER w0
 | 1,hx,hy=>simp at hx hy;subst hx hy;exact .v _
 | 2,hx,hy=>simp at hx hy;subst hx hy;exact .v _
 | 3,hx,hy=>simp at hx hy;subst hx hy;exact .v _
 | 4,hx,hy=>simp at hx hy;subst hx hy;exact wV w4
 | n+5,hx,hy=>simp at hx
end Go.Proofs.YthblfhgofopcaaaGreat
