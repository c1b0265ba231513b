/-
  Parts of the proof: Ext, Frame, Frame1, FrmS, FrmH, FrmP, FrmQ, Into, Lend, KitQ, KitR, KitP.
-/
import Derived.Test.YthblfhgofopcaaaGreatSH08
import Derived.Test.YthblfhgofopcaaaGreatSH15
import Derived.Test.YthblfhgofopcaaaGreatSH17
import Derived.Test.YthblfhgofopcaaaGreatRows
import Derived.Test.YthblfhgofopcaaaGreatSH01
import Derived.ProofKit
import Derived.OpenShut
import Derived.ShutString
import Derived.ChangeOld
import Derived.Below
import Derived.Lib.SmallJoins
import Derived.Deep.Slices
import Derived.Test.YthblfhgofopcaaaGreatSH09
import Derived.Deep.Fields
import Derived.ChangeSame
import Derived.Test.YthblfhgofopcaaaGreatSH13
import Derived.Test.YthblfhgofopcaaaGreatSH14
import Derived.Test.YthblfhgofopcaaaGreatFO18
import Derived.Test.YthblfhgofopcaaaGreatFO12
set_option linter.all false
namespace Go.Proofs.YthblfhgofopcaaaGreat
open Go.RowKit
set_option maxRecDepth 100000
@[go_sem] theorem xO:Tryz.f3.results.toList=[.tmp 12]:=rfl
@[go_sem] theorem xN:Tryz.f26.results.toList=[.tmp 4]:=rfl
def xD:List (Nat×List Nat×List Nat):=[(1,[0,1,2,3,5,4,6],[0,0,2,0,14,0,63]),(4,[0,1,3,4,2,5,6,7,8,9,11,12,10,13,14,15,16,17,18,19,20,21],[0,0,3,0,0,31,63,127,255,255,1023,255,255,8191,16383,32767,65535,131071,131071,524287,1048575,2097151]),(12,[0,1,2,3,4,5,6,8,7,9,10,11,12],[0,0,3,7,15,0,0,96,0,480,992,2047,4095]),(13,[0,1,3,4,2,5,6,7,8,9,11,12,10,13,14,15,16,17,18,19],[0,0,3,0,0,31,63,127,255,255,1023,255,255,8191,16383,32767,65535,131071,262143,524287])]
def xI:List (Nat×List Nat×List Nat):=[]
def wX:List (Nat×List Nat):=[(0,[2,3,4,5,6,7]),(1,[2,3,4,5,6,7,26]),(2,[12]),(3,[2,3,4,5,6,7,13]),(4,[2,3,4,5,51]),(5,[12]),(6,[2,4,5,15,16]),(7,[2,4,5,15,16,18]),(8,[2,4,5,15,16,18,62]),(9,[2,4,5,15,16,18]),(10,[2,4,5,15,16,18,19]),(11,[2,4,5,15,16,18,19,77]),(12,[2,4,5,15,16,18]),(13,[12])]
def xC:List (Nat×List Nat):=[(0,[0,1]),(1,[0,1]),(2,[0,1,9]),(3,[0]),(4,[4])]
section
variable {inv:Nat→Option Nat} {f:Bool}
@[go_sem] theorem xA (m:Fm):(DN f m).low=DN false m:=by simp only [DN,AV.low,lowL,Vs]
@[go_sem] theorem xL (l:List Fm):lowL (l.map (DN f))=l.map (DN false):=M0 xA l
end
end Go.Proofs.YthblfhgofopcaaaGreat

namespace Go.Proofs.YthblfhgofopcaaaGreat
open Go.RowKit Go.ChangeShapes Go.WideShapes Go.ChangeAt
theorem Rb:ownKnob Tryz.prog.godebug=none:=by kernel_rfl
theorem FH:laidOutB Tryz.prog=true:=by kernel_rfl
theorem WM:Tryz.prog.cellsOf 3=1:=by kernel_rfl
theorem OA {w:World} {x:Addr} {l c:Nat} {zs:List Int} (hl:l≤c) (hm:c≤maxLen) (hz:zs.length=c) (hcell:∀i,i<zs.length→w.cell? (x.add i)=some (.int .i64 (zs.getD i 0))) :
  BO w (.slice (some x) l c) (zs.take l):=by
 refine ⟨some x,c,by rw [List.length_take,Nat.min_eq_left (by omega)],by rw [List.length_take];omega,hm,fun i u hu=> ?_⟩;have hi:=(List.getElem?_eq_some_iff.1 hu).1;simp only [Ke,List.length_map,List.length_take] at hi;have hc:=hcell i (by omega);refine ⟨x,rfl,?_,?_⟩
 ·have:=World.block_lt_of_cell? w _ hc;rwa [Iq] at this
 ·rw [hc,←hu];have h2:i<zs.length:=by omega
  simp [List.getD,h2,show i<l by omega]
section
variable {H:Type} {enc:TypeId×Value→H} {W:World} {spare:Nat→Bool} {held:Bool}
theorem DE {t:TypeId} {fuel:Nat} {v:Value} {x:DataW H×List MemPlace} (ht:Tryz.prog.underlying t=some (.slice 3)) (h:DataW.trod enc Tryz.prog W 0 spare held fuel t [v]=some x) (hs:spare=fun _=>true) :
  ∃zs,BO W v zs∧∀z∈zs,(Lit.int .i64 z).wf=true:=by
 subst hs;rcases open_ints ht Tryz.underlying3 WM h with ⟨hcs,_⟩|⟨a,l,c,zs,hcs,_,hl,hm,hz,_,hcell,hwz⟩
 ·simp at hcs;subst hcs;exact ⟨[],BO.nil,by simp⟩
 ·simp at hcs;subst hcs;exact ⟨zs.take l,OA hl hm (by simpa using hz) hcell,fun z hz=>hwz z (List.mem_of_mem_take hz)⟩
end
end Go.Proofs.YthblfhgofopcaaaGreat

namespace Go.Proofs.YthblfhgofopcaaaGreat
open Go.Joins Go.ChangeShapes Go.WideShapes Go.RowKit Go.Deep
section
variable {H:Type} {enc:TypeId×Value→H} {P:Program} {w:World} {base:Nat} {spare:Nat→Bool} {held:Bool}
theorem Uo {r:Reach} {b0:Nat} {t:TypeId} {f0 f1 f2 f3 f4 f5 f6 f7 f8:Field} {v:Value} {d:DataW H} {p:List MemPlace} (hs:P.underlying t=some (.struct #[f0,f1,f2,f3,f4,f5,f6,f7,f8])) (hone:oneCellFields P #[f0,f1,f2,f3,f4,f5,f6,f7,f8]=true) (hC:P.cellsOf t=9)
  (hv:Value.okWide P w r b0 t v) (h:DataW.Trod enc P w base spare held t v d p) :
  ∃(v0 v1 v2 v3 v4 v5 v6 v7 v8:Value) (y0 y1 y2 y3 y4 y5 y6 y7 y8:DataW H×List MemPlace) (n:Nat),v= .agg #[v0,v1,v2,v3,v4,v5,v6,v7,v8]∧
   DataW.trod enc P w base spare held n f0.type [v0]=some y0∧DataW.trod enc P w base spare held n f1.type [v1]=some y1∧DataW.trod enc P w base spare held n f2.type [v2]=some y2∧DataW.trod enc P w base spare held n f3.type [v3]=some y3∧DataW.trod enc P w base spare held n f4.type [v4]=some y4∧DataW.trod enc P w base spare held n f5.type [v5]=some y5∧DataW.trod enc P w base spare held n f6.type [v6]=some y6∧DataW.trod enc P w base spare held n f7.type [v7]=some y7∧DataW.trod enc P w base spare held n f8.type [v8]=some y8:=by
 obtain ⟨cs,rfl,hsz⟩:=okWide_struct hs hv;obtain ⟨l⟩:=cs;match l,hsz.trans hC with
 | [c0,c1,c2,c3,c4,c5,c6,c7,c8],_ =>
  obtain ⟨fuel,hf⟩:=h;obtain ⟨xs,n,_,hx,_,hlen,hg⟩:=DataW.trod_struct hs hf;obtain ⟨o0,k0⟩:=hone_of hone 0 f0 rfl;obtain ⟨o1,k1⟩:=hone_of hone 1 f1 rfl;obtain ⟨o2,k2⟩:=hone_of hone 2 f2 rfl;obtain ⟨o3,k3⟩:=hone_of hone 3 f3 rfl;obtain ⟨o4,k4⟩:=hone_of hone 4 f4 rfl;obtain ⟨o5,k5⟩:=hone_of hone 5 f5 rfl;obtain ⟨o6,k6⟩:=hone_of hone 6 f6 rfl;obtain ⟨o7,k7⟩:=hone_of hone 7 f7 rfl;obtain ⟨o8,k8⟩:=hone_of hone 8 f8 rfl;match xs,hlen with
  | [y0,y1,y2,y3,y4,y5,y6,y7,y8],_ =>
   exact ⟨c0,c1,c2,c3,c4,c5,c6,c7,c8,y0,y1,y2,y3,y4,y5,y6,y7,y8,n,rfl,by simpa [Value.cells,o0,k0] using hg 0 f0 rfl,by simpa [Value.cells,o1,k1] using hg 1 f1 rfl,by simpa [Value.cells,o2,k2] using hg 2 f2 rfl,by simpa [Value.cells,o3,k3] using hg 3 f3 rfl,by simpa [Value.cells,o4,k4] using hg 4 f4 rfl,by simpa [Value.cells,o5,k5] using hg 5 f5 rfl,by simpa [Value.cells,o6,k6] using hg 6 f6 rfl,by simpa [Value.cells,o7,k7] using hg 7 f7 rfl,by simpa [Value.cells,o8,k8] using hg 8 f8 rfl⟩
end
def QN (s:AL):Prop:=(∀z∈s.su,(Lit.int .i64 z).wf=true)∧(∀z∈s.re,(Lit.int .i64 z).wf=true)
section
variable {H:Type} {enc:TypeId×Value→H} {W:World} {spare:Nat→Bool} {held:Bool}
set_option maxRecDepth 100000 in
theorem JJ {r:Reach} {b0:Nat} {v:Value} {d:DataW H} {p:List MemPlace} (hv:Value.okWide Tryz.prog W r b0 24 v) (h:DataW.Trod enc Tryz.prog W 0 spare held 24 v d p) (hs:spare=fun _=>true) :
  ∃s:AL,F5 W v s∧QN s:=by
 obtain ⟨v0,v1,v2,v3,v4,v5,v6,v7,v8,y0,y1,y2,y3,y4,y5,y6,y7,y8,n,rfl,h0,h1,h2,h3,h4,h5,h6,h7,h8⟩:=Uo Tryz.underlying24 (by kernel_rfl) (by kernel_rfl) hv h;obtain ⟨zs,i1,w1⟩:=DE Tryz.underlying22 h1 hs;obtain ⟨ks,i8,w8⟩:=DE Tryz.underlying22 h8 hs;obtain ⟨z0,e0,_,_⟩:=DataW.trod_int Tryz.underlying3 h0;obtain rfl:v0= .int .i64 z0:=by simpa using e0
 obtain ⟨z2,e2,_,_⟩:=DataW.trod_int Tryz.underlying3 h2;obtain rfl:v2= .int .i64 z2:=by simpa using e2
 obtain ⟨z3,e3,_,_⟩:=DataW.trod_int Tryz.underlying3 h3;obtain rfl:v3= .int .i64 z3:=by simpa using e3
 obtain ⟨z4,e4,_,_⟩:=DataW.trod_int Tryz.underlying3 h4;obtain rfl:v4= .int .i64 z4:=by simpa using e4
 obtain ⟨z5,e5,_,_⟩:=DataW.trod_int Tryz.underlying3 h5;obtain rfl:v5= .int .i64 z5:=by simpa using e5
 obtain ⟨z6,e6,_,_⟩:=DataW.trod_int Tryz.underlying3 h6;obtain rfl:v6= .int .i64 z6:=by simpa using e6
 obtain ⟨z7,e7,_,_⟩:=DataW.trod_int Tryz.underlying3 h7;obtain rfl:v7= .int .i64 z7:=by simpa using e7
 exact ⟨⟨z0,zs,z2,z3,z4,z5,z6,z7,ks⟩,⟨v1,v8,rfl,i1,i8⟩,w1,w8⟩
end
set_option maxRecDepth 100000
def cI (W:World):Cx:=⟨W,fun _=>0,fun _=>false,fun _=>False,fun _=>True,W.heap.size⟩
theorem jU (W:World):BH (cI W) (lk [] .nil):=⟨(fun r g sz es h=>by cases h),(fun r g sz es h=>by cases h),(fun r r' g g' sz sz' es es' h=>by cases h)⟩
theorem WA (W:World) {b:Nat} (hb:b<W.heap.size):Dx (cI W) (lk [] .nil) false b:=⟨hb,(by rintro ⟨r,g,sz,es,h,_⟩;cases h), .inr (.inr ⟨rfl,trivial⟩)⟩
theorem Io {W:World} {a:Addr} {u:Value} (h:W.cell? a=some u):a=⟨a.block,a.off,none⟩:=by
 obtain ⟨b,o,sp⟩:=a;cases sp with
 | none=>rfl
 | some k =>
  unfold World.cell? at h;split at h<;>simp at h
theorem ER {W:World} {v:Value} {zs:List Int} (h:BO W v zs):AS (cI W) (lk [] .nil) (AN false zs) v:=by
 obtain ⟨A,c,rfl,h1,h2,h3⟩:=h;cases zs with
 | nil=>exact .slE false 1 A c h2
 | cons z l =>
  obtain ⟨ad,rfl,hb,hc⟩:=h3 0 (.int .i64 z) rfl;have e0:ad.add 0=ad:=rfl;rw [e0] at hc;obtain ⟨b,o,rfl⟩:∃b o,ad=⟨b,o,none⟩:=⟨_,_,Io hc⟩;have hl:(z::l).length=((z::l).map I).length:=by simp
  rw [hl];have dest:∀(i:Nat) (e:AV),((z::l).map I)[i]? =some e→∃y,(z::l)[i]? =some y∧e=I y:=fun i e he=>by
   rw [List.getElem?_map] at he;cases hz:(z::l)[i]? with
   | none=>rw [hz] at he;cases he
   | some y =>
    rw [hz] at he;injection he with he
    exact ⟨y,rfl,he.symm⟩
  refine .sl false 1 ((z::l).map I) b o c (fun i _=> .int .i64 ((z::l).getD i 0)) (by rw [List.length_map];exact h1) h2 (WA W hb) (fun i e he=> ?_) (fun i e j x he hx=> ?_) (fun i e j x he hx=> ?_)
  ·obtain ⟨y,hz,rfl⟩:=dest i e he;rfl
  ·obtain ⟨y,hz,rfl⟩:=dest i e he;obtain ⟨ad',e',hb',hc'⟩:=h3 i (.int .i64 y) (by rw [Ke,List.getElem?_map,hz];rfl);injection e' with e'
   subst e';have hj:j=0:=by
    cases j with
    | zero=>rfl
    | succ j=>simp [AV.cs,I] at hx
   subst hj;rw [Addr.add_lit] at hc';show W.cell? ⟨b,o+i*1+0,none⟩=_;rw [List.getD_eq_getElem?_getD,hz];simpa using hc'
  ·obtain ⟨y,hz,rfl⟩:=dest i e he;have hj:j=0:=by
    cases j with
    | zero=>rfl
    | succ j=>simp [AV.cs,I] at hx
   subst hj;simp [AV.cs,I] at hx;subst hx;rw [List.getD_eq_getElem?_getD,hz];exact .v _
theorem wM {W:World} {v:Value} {s:AL} (h:F5 W v s):AS (cI W) (lk [] .nil) (AO s) v:=by
 obtain ⟨a,b,rfl,h1,h2⟩:=h;refine .agg _ _ rfl fun i x y hx hy=> ?_
 match i,hx,hy with
 | 0,hx,hy=>simp at hx hy;subst hx hy;exact .v _
 | 1,hx,hy=>simp at hx hy;subst hx hy;exact ER h1
 | 2,hx,hy=>simp at hx hy;subst hx hy;exact .v _
 | 3,hx,hy=>simp at hx hy;subst hx hy;exact .v _
 | 4,hx,hy=>simp at hx hy;subst hx hy;exact .v _
 | 5,hx,hy=>simp at hx hy;subst hx hy;exact .v _
 | 6,hx,hy=>simp at hx hy;subst hx hy;exact .v _
 | 7,hx,hy=>simp at hx hy;subst hx hy;exact .v _
 | 8,hx,hy=>simp at hx hy;subst hx hy;exact ER h2
 | n+9,hx,hy=>simp at hx
theorem T0 {f:Nat} {ys:List AV} (h:AM Tryz.prog f ys (B true)) {W:World} {vals:Array Value} (hr:QX (cI W) (lk [] .nil) ys vals):Calls Tryz.prog f vals W (OF W (.bool true)):=by
 refine (h.2 (cI W) vals rfl (jU W) hr).mono ?_;rintro e w' ⟨v,x,hl,c',rfl,rfl,⟨rfl,rfl⟩,k,_,rv⟩;have:=As rv;subst this;refine ⟨rfl,?_⟩;exact ⟨k.os,k.tape,k.output,k.size,fun b hb=>k.blk b hb (by rintro ⟨r,g,sz,es,h,_⟩;cases h)⟩
end Go.Proofs.YthblfhgofopcaaaGreat

namespace Go.Proofs.YthblfhgofopcaaaGreat
open Go.Joins Go.ChangeShapes Go.WideShapes Go.RowKit Go.Deep Go.ChangeAt
section
variable {H:Type} {enc:TypeId×Value→H} {P:Program} {w:World} {base:Nat} {spare:Nat→Bool} {held:Bool}
theorem GF {t e:TypeId} {fs:Array Field} {fuel:Nat} {cs:List Value} {x:DataW H×List MemPlace} (ht:P.underlying t=some (.slice e)) (he:P.underlying e=some (.struct fs))
  (hone:oneCellFields P fs=true) (hC:P.cellsOf e=fs.size) (h:DataW.trod enc P w base spare held fuel t cs=some x) :
  (cs=[.slice none 0 0]∧x=(.nil,[]))∨
  ∃(a:Addr) (len cap m:Nat),cs=[.slice (some a) len cap]∧len≤cap∧cap≤maxLen∧m=(if spare a.block then cap else len)∧
   ∀i,i<m→∃(n:Nat),∀(j:Nat) (f:Field),fs[j]? =some f→∃(v:Value) (y:DataW H×List MemPlace),w.cell? (a.add (i*fs.size+j))=some v∧DataW.trod enc P w base spare held n f.type [v]=some y:=by
 rcases open_slice ht h with h0|⟨a,len,cap,m,n,D,Pl,hcs,hb,hl,hm,hmm,hx,hi⟩
 ·exact .inl h0
 ·refine .inr ⟨a,len,cap,m,hcs,hl,hm,hmm,fun i him=> ?_⟩;obtain ⟨cs',hc,ht'⟩:=hi i him;rw [hC] at hc;obtain ⟨ys,n',hn',hy,hlen,hyl,hf⟩:=DataW.trod_struct he ht';obtain ⟨_,hcl,hat⟩:=World.cells?_some hc;refine ⟨n',fun j f hj=> ?_⟩;obtain ⟨ho,hk⟩:=hone_of hone j f hj;have hjl:j<fs.size:=(Array.getElem?_eq_some_iff.1 hj).1;have hcell:=hat j hjl;have hv:cs'[j]? =some (cs'[j]'(by omega)):=List.getElem?_eq_getElem (by omega);have h1:=hf j f hj;rw [ho,hk] at h1;have hone' :(cs'.drop j).take 1=[cs'[j]'(by omega)]:=by
   rw [List.drop_eq_getElem_cons (by omega)];rfl
  rw [hone'] at h1;have hys:ys[j]? =some (ys[j]'(by omega)):=List.getElem?_eq_getElem (by omega);refine ⟨_,_,?_,h1.trans hys⟩;rw [←Go.Deep.add_add,hcell,hv]
end
theorem L4 {a:Addr} {n j:Nat} {w:World} {u:Value} (h:w.cell? (a.add (n+j))=some u):w.cell? ⟨(a.add n).block,(a.add n).off+j,none⟩=some u:=by
 have e:=Io h;rw [e] at h;obtain ⟨b,o,sp⟩:=a;have e1:(Addr.add ⟨b,o,sp⟩ (n+j)).block=(Addr.add ⟨b,o,sp⟩ n).block:=by simp only [Addr.add];split<;>split<;>rfl
 have e2:(Addr.add ⟨b,o,sp⟩ (n+j)).off=(Addr.add ⟨b,o,sp⟩ n).off+j:=by simp only [Addr.add];split<;>split<;>simp<;>omega
 rw [e1,e2] at h;exact h
theorem NA {W:World} {v:Value} {zs:List Int} (h:BO W v zs):zs.length≤9223372036854775807:=by
 obtain ⟨_,_,_,h1,h2,_⟩:=h;unfold maxLen at h2;omega
def OY (w:World) (v:Value) (l:List Fm):Prop :=
 ∃A c,v= .slice A l.length c∧l.length≤c∧c≤maxLen∧∀i,(h:i<l.length)→∃ad kv,A=some ad∧ad.block<w.heap.size∧w.cell? (ad.add (i*3))=some (.int .i64 l[i].wh)∧w.cell? ⟨(ad.add (i*3)).block,(ad.add (i*3)).off+1,none⟩=some kv∧BO w kv l[i].ks∧w.cell? ⟨(ad.add (i*3)).block,(ad.add (i*3)).off+2,none⟩=some (.bool l[i].ag)
section
variable {H:Type} {enc:TypeId×Value→H} {W:World} {spare:Nat→Bool} {held:Bool}
set_option maxRecDepth 100000 in
theorem JA {t:TypeId} {fuel:Nat} {v:Value} {x:DataW H×List MemPlace} (ht:Tryz.prog.underlying t=some (.slice 26)) (h:DataW.trod enc Tryz.prog W 0 spare held fuel t [v]=some x) (hs:spare=fun _=>true) :
  ∃l,OY W v l:=by
 subst hs;rcases GF ht Tryz.underlying26 (by kernel_rfl) (by kernel_rfl) h with ⟨hcs,_⟩|⟨a,len,cap,m,hcs,hl,hm,hmm,hi⟩
 ·simp at hcs;subst hcs;exact ⟨[],none,0,rfl,Nat.le_refl _,Nat.zero_le _,fun i h=>absurd h (by simp)⟩
 ·simp at hcs;subst hcs;simp at hmm;rw [hmm] at hi;clear hmm;have hg:∀i:Nat,∃g:Fm×Value,i<cap→W.cell? (a.add (i*3))=some (.int .i64 g.1.wh)∧W.cell? (a.add (i*3+1))=some g.2∧BO W g.2 g.1.ks∧W.cell? (a.add (i*3+2))=some (.bool g.1.ag):=fun i=>by
   by_cases h:i<cap
   ·obtain ⟨n,hn⟩:=hi i h;obtain ⟨v0,y0,c0,t0⟩:=hn 0 _ rfl;obtain ⟨v1,y1,c1,t1⟩:=hn 1 _ rfl;obtain ⟨v2,y2,c2,t2⟩:=hn 2 _ rfl;obtain ⟨z0,e0,_,_⟩:=DataW.trod_int Tryz.underlying3 t0;obtain rfl:v0= .int .i64 z0:=by simpa using e0
    obtain ⟨zs,i1,_⟩:=DE Tryz.underlying22 t1 rfl;obtain ⟨b,e2,_⟩:=DataW.trod_bool Tryz.underlying4 t2;obtain rfl:v2= .bool b:=by simpa using e2
    exact ⟨⟨⟨z0,zs,b⟩,v1⟩,fun _=>⟨c0,c1,i1,c2⟩⟩
   ·exact ⟨⟨⟨0,[],false⟩, .slice none 0 0⟩,fun h' =>absurd h' h⟩
  obtain ⟨f,hf⟩:=Classical.axiomOfChoice hg;refine ⟨(List.range len).map fun i=>(f i).1,some a,cap,by simp,by simpa using hl,hm,fun i hil=> ?_⟩;have hil' :i<len:=by simpa using hil
  obtain ⟨c0,c1,c2,c3⟩:=hf i (by omega);refine ⟨a,(f i).2,rfl,?_,?_⟩
  ·have:=World.block_lt_of_cell? W _ c0;rwa [Iq] at this
  ·simp only [List.getElem_map,List.getElem_range];exact ⟨c0,L4 c1,c2,L4 c3⟩
end
def vX (f:Fm) (kv:Value):Nat→Value
 | 0=> .int .i64 f.wh
 | 1=>kv
 | _=> .bool f.ag
theorem Ns {W:World} {v:Value} {l:List Fm} (h:OY W v l):AS (cI W) (lk [] .nil) (Bh false l) v:=by
 obtain ⟨A,c,rfl,h1,h2,h3⟩:=h;cases l with
 | nil=>exact .slE false 3 A c h2
 | cons z l =>
  obtain ⟨ad,_,rfl,hb,hc,_⟩:=h3 0 (by simp);have e0:ad.add (0*3)=ad:=by rw [Nat.zero_mul];rfl
  rw [e0] at hc;obtain ⟨b,o,rfl⟩:∃b o,ad=⟨b,o,none⟩:=⟨_,_,Io hc⟩;have hk:∀i:Nat,∃kv:Value,(hi:i<(z::l).length)→W.cell? ⟨b,o+i*3,none⟩=some (.int .i64 (z::l)[i].wh)∧W.cell? ⟨b,o+i*3+1,none⟩=some kv∧BO W kv (z::l)[i].ks∧W.cell? ⟨b,o+i*3+2,none⟩=some (.bool (z::l)[i].ag):=fun i=>by
   by_cases hi:i<(z::l).length
   ·obtain ⟨ad',kv,e',hb',c0,c1,c2,c3⟩:=h3 i hi;injection e' with e'
    subst e';rw [Addr.add_lit] at c0 c1 c3;exact ⟨kv,fun _=>⟨c0,c1,c2,c3⟩⟩
   ·exact ⟨.bool false,fun h=>absurd h hi⟩
  obtain ⟨kf,hkf⟩:=Classical.axiomOfChoice hk;have hl:(z::l).length=((z::l).map (DN false)).length:=by simp
  rw [hl];have dest:∀(i:Nat) (e:AV),((z::l).map (DN false))[i]? =some e→∃hi:i<(z::l).length,e=DN false (z::l)[i]∧(z::l).getD i z=(z::l)[i]:=fun i e he=>by
   obtain ⟨hi,he⟩:=List.getElem?_eq_some_iff.1 he;rw [List.getElem_map] at he;have hi' :i<(z::l).length:=by simpa using hi
   exact ⟨hi',he.symm,by rw [List.getD_eq_getElem?_getD,List.getElem?_eq_getElem hi'];rfl⟩
  refine .sl false 3 ((z::l).map (DN false)) b o c (fun i j=>vX ((z::l).getD i z) (kf i) j) (by rw [List.length_map];exact h1) h2 (WA W hb) (fun i e he=> ?_) (fun i e j x he hx=> ?_) (fun i e j x he hx=> ?_)
  ·obtain ⟨_,rfl,_⟩:=dest i e he;rfl
  ·obtain ⟨hi,rfl,hg⟩:=dest i e he;obtain ⟨c0,c1,c2,c3⟩:=hkf i hi;rw [hg];match j,hx with
   | 0,_=>exact c0
   | 1,_=>exact c1
   | 2,_=>exact c3
   | j+3,hx=>simp [DN,AV.cs] at hx
  ·obtain ⟨hi,rfl,hg⟩:=dest i e he;obtain ⟨c0,c1,c2,c3⟩:=hkf i hi;rw [hg];match j,hx with
   | 0,hx=>simp [DN,AV.cs] at hx;subst hx;exact .v _
   | 1,hx=>simp [DN,AV.cs] at hx;subst hx;exact ER c2
   | 2,hx=>simp [DN,AV.cs] at hx;subst hx;exact .v _
   | j+3,hx=>simp [DN,AV.cs] at hx
end Go.Proofs.YthblfhgofopcaaaGreat

namespace Go.Proofs.YthblfhgofopcaaaGreat
open Go.ChangeShapes Go.WideShapes Go.ChangeAt Go.RowKit
def xE (W:World) (v:Value) (f:Fm):Prop:=∃b,v= .agg #[.int .i64 f.wh,b, .bool f.ag]∧BO W b f.ks
section
variable {H:Type} {enc:TypeId×Value→H} {W:World} {spare:Nat→Bool} {held:Bool}
set_option maxRecDepth 100000 in
theorem l4 {r:Reach} {b0:Nat} {v:Value} {d:DataW H} {p:List MemPlace} (hv:Value.okWide Tryz.prog W r b0 26 v) (h:DataW.Trod enc Tryz.prog W 0 spare held 26 v d p) (hs:spare=fun _=>true) :
  ∃x:Fm,xE W v x:=by
 obtain ⟨v0,v1,v2,y0,y1,y2,n,rfl,_,_,t0,t1,t2⟩:=Go.Joins.open_agg3 Tryz.underlying26 (by kernel_rfl) (by kernel_rfl) hv h;obtain ⟨z0,e0,_,_⟩:=DataW.trod_int Tryz.underlying3 t0;obtain rfl:v0= .int .i64 z0:=by simpa using e0
 obtain ⟨zs,i1,_⟩:=DE Tryz.underlying22 t1 hs;obtain ⟨b,e2,_⟩:=DataW.trod_bool Tryz.underlying4 t2;obtain rfl:v2= .bool b:=by simpa using e2
 exact ⟨⟨z0,zs,b⟩,v1,rfl,i1⟩
end
theorem wU {W:World} {v:Value} {x:Fm} (h:xE W v x):AS (cI W) (lk [] .nil) (DN false x) v:=by
 obtain ⟨b,rfl,h2⟩:=h;refine .agg _ _ rfl fun i x y hx hy=> ?_
 match i,hx,hy with
 | 0,hx,hy=>simp at hx hy;subst hx hy;exact .v _
 | 1,hx,hy=>simp at hx hy;subst hx hy;exact ER h2
 | 2,hx,hy=>simp at hx hy;subst hx hy;exact .v _
 | n+3,hx,hy=>simp at hx
end Go.Proofs.YthblfhgofopcaaaGreat

namespace Go.Proofs.YthblfhgofopcaaaGreat
open Go.RowKit
set_option maxRecDepth 100000
set_option maxHeartbeats 2000000
theorem C4 (n m:Int) (h0:0<m) (h1:m≤1000000000):AM Tryz.prog 26 [I n,I m] (I (n % m)):=by
 have hm:=Int.emod_nonneg n (show m≠0 by omega);have hl:=Int.emod_lt_of_pos n h0;have ht:n.tmod m=n % m∨(n.tmod m<0∧n.tmod m+m=n % m):=by
  rw [Int.tmod_eq_emod];split
  ·left;omega
  ·right;have:(m.natAbs:Int)=m:=by omega
   rw [this];omega
 obtain ⟨z,hz⟩:∃z,n.tmod m=z:=⟨_,rfl⟩;obtain ⟨y,hy⟩:∃y,n % m=y:=⟨_,rfl⟩;rw [hz,hy] at ht;rw [hy] at hm hl ⊢;have hne:¬m=0:=by omega
 refine zb Tryz.ntmps26 ?_;let tb:=xI;let lv:=xC;(have fa:=hz;(repeat' first|refine zQ ?_|refine zN ?_;intro K hC hK|refine zM ?_;try clear hK hC K|refine zC ?_ ?_<;>intro hb|refine zK ?_;intro Jo JU JC AH AJ AG)<;>(try clear fa))
 ·obtain rfl:y=z+m:=by omega
  refine Aa [] ?_ ?_<;>(first|exact AK|refine zE ?_)
 ·obtain rfl:y=z:=by omega
  refine Aa [] ?_ ?_<;>(first|exact AK|refine zE ?_)
theorem nI {c c1:Cx} {h h1:HF} (hw:c1.w=c.w) (hh:BH c h) {r g sz n:Nat} {es es' :List AV} {y:Value} (hr:h r= .arr g sz es) (hn:n=es.length) (k:AS c h (.rsl r g 0 n) y) (hst:c.rl r=true→Dx c1 h1 false (c.bl r)) (hl:es'.length=es.length)
  (hv:∀(i:Nat) (e e' :AV),es[i]? =some e→es'[i]? =some e' →e'.cs.length=e.cs.length∧∀(j:Nat) (u u' :AV) (y:Value),e.cs[j]? =some u→e'.cs[j]? =some u' →AS c h u y→AS c1 h1 u' y):AS c1 h1 (.sl false sz es') y:=by
 cases k with
 | rsl _ _ _ _ _ h1' hg =>
  unfold Lg at hg;rw [hr] at hg;obtain ⟨A,cap,rfl,q2,q3,q4⟩:=hg.2 rfl;subst hn;by_cases h0:es.length=0
  ·have e1:es' =[]:=List.eq_nil_of_length_eq_zero (by omega);rw [e1,h0];exact .slE _ _ _ _ q3
  ·obtain ⟨j1,rfl,_⟩:=q4 (by omega);obtain ⟨cs,ty,a1,a2,a3,a4⟩:=hh.ar r g sz es hr j1;have old:∀(i:Nat) (e' :AV),es'[i]? =some e' →∃e,es[i]? =some e:=fun i e' h=>by
    have:=(List.getElem?_eq_some_iff.1 h).1;exact ⟨_,List.getElem?_eq_getElem (by omega)⟩
   have cold:∀(e e' :AV) (j:Nat) (u' :AV),e'.cs.length=e.cs.length→e'.cs[j]? =some u' →∃u,e.cs[j]? =some u:=fun e e' j u' hc h=>by
    have:=(List.getElem?_eq_some_iff.1 h).1;exact ⟨_,List.getElem?_eq_getElem (by omega)⟩
   have:=AS.sl (c:=c1) (h:=h1) false sz es' (c.bl r) (0*sz) cap (fun i j=>cs[i*sz+j]?.getD undef) (by rw [hl];exact q2) q3 (hst j1) (fun i e' he=>by
    obtain ⟨e,he0⟩:=old i e' he
    rw [(hv i e e' he0 he).1];exact a3 i e he0) (fun i e' j u' he hj=>by
    obtain ⟨e,he0⟩:=old i e' he
    obtain ⟨u,hu⟩:=cold e e' j u' (hv i e e' he0 he).1 hj
    obtain ⟨v,hv',_⟩:=a4 i e j u he0 hu
    rw [hw,cell_of_row c.w _ _ cs ty (0,0) a1,show 0*sz+i*sz+j=i*sz+j by rw [Nat.zero_mul,Nat.zero_add],hv']
    rfl) (fun i e' j u' he hj=>by
    obtain ⟨e,he0⟩:=old i e' he
    obtain ⟨q1,q2⟩:=hv i e e' he0 he
    obtain ⟨u,hu⟩:=cold e e' j u' q1 hj
    obtain ⟨v,hv',hrel⟩:=a4 i e j u he0 hu
    show AS c1 h1 u' (cs[i*sz+j]?.getD undef)
    rw [hv'];exact q2 j u u' v hu hj hrel)
   rw [hl] at this;exact this
theorem w9 {c:Cx} {h:HF} (hh:BH c h) {nm:Nat} (hn:h nm= .nil):Bj c h c (Bc [(nm, .dead)] h)∧BH c (Bc [(nm, .dead)] h)∧∀y:Value,y.oneCell' =true→AS c (Bc [(nm, .dead)] h) (.rsl nm 0 0 0) y:=by
 have e1:Bc [(nm, .dead)] h nm= .dead:=by simp [Bc]
 have e2:∀r,r≠nm→Bc [(nm, .dead)] h r=h r:=fun r hr=>by simp [Bc,hr]
 have hne:∀r ob,h r=ob→(match ob with|.nil=>False|_=>True)→r≠nm:=fun r ob h1 h2 h3=>by
  subst h3;rw [hn] at h1;subst h1;exact h2
 have old:∀r g sz es,Bc [(nm, .dead)] h r= .arr g sz es→h r= .arr g sz es:=fun r g sz es hr=>by
  by_cases hq:r=nm
  ·subst hq;rw [e1] at hr;cases hr
  ·rw [e2 r hq] at hr;exact hr
 have K:Bj c h c (Bc [(nm, .dead)] h):={
  dr:= .inr (Nat.le_refl _)
  os:=rfl
  tape:=rfl
  output:=rfl
  size:=Nat.le_refl _
  blk:=fun _ _ _=>rfl
  dd:=fun r hr=>by rw [e2 r (hne r _ hr trivial)];exact hr
  ar:=fun r g1 s1 es1 hr=> .inr ⟨g1,es1,by rw [e2 r (hne r _ hr trivial)];exact hr,Nat.le_refl _,fun _=>⟨rfl,rfl,fun _ cs t hcs=>⟨cs,hcs,rfl⟩⟩⟩
  fr:=fun r g1 s1 es1 hr hl=> .inr ⟨g1,es1,old r g1 s1 es1 hr,hl,rfl⟩
  okT:=rfl
  okF:=rfl
  n0:=rfl }
 refine ⟨K,⟨fun r g sz es hr hl=> ?_,fun r g sz es hr hl=>hh.em r g sz es (old r g sz es hr) hl,fun r r' g g' sz sz' es es' hr hr' hl hl' hb=>hh.inj r r' g g' sz sz' es es' (old _ _ _ _ hr) (old _ _ _ _ hr') hl hl' hb⟩,fun y hy=> .rsl _ _ _ _ _ hy ?_⟩
 ·obtain ⟨cs,ty,a1,a2,a3,a4⟩:=hh.ar r g sz es (old r g sz es hr) hl;exact ⟨cs,ty,a1,a2,a3,fun i e j u he hj=>by
   obtain ⟨y,hy,hk⟩:=a4 i e j u he hj
   exact ⟨y,hy,hk.ext K.ext⟩⟩
 ·rw [e1];exact trivial
theorem wL {P:Program} {f:Nat} {ys xs:List AV} {rest:Hl} {x0:Int} {R:AV→Hl→Prop} (hC:Bb P f ys (Af x0) R)
  (hR:∀x hl,R x hl→∃x' r g o n f sz es,lk hl .nil 0= .arr 0 1 [U x']∧x= .agg [.rsl r g o n, .sl f sz es])
  (h5:lk rest .nil 5= .nil)
  (hv:∀(c c1:Cx) (vals:Array Value),c1.w=c.w→c1.bl=c.bl→BH c (lk ((0, .arr 0 1 [U x0])::rest) .nil)→(∀f b,Dx c (lk ((0, .arr 0 1 [U x0])::rest) .nil) f b→Dx c1 (lk (Af x0) .nil) false b)→
   (∀r g sz es,r≠0→lk ((0, .arr 0 1 [U x0])::rest) .nil r= .arr g sz es→c.rl r=true→Dx c1 (lk (Af x0) .nil) false (c.bl r))→QX c (lk ((0, .arr 0 1 [U x0])::rest) .nil) xs vals→QX c1 (lk (Af x0) .nil) ys vals) :
  Bb P f xs ((0, .arr 0 1 [U x0])::rest) (fun x hl=>∃x',x= .agg [.rsl 5 0 0 0, .rsl 5 0 0 0]∧hl=(5, .dead)::(0, .arr 0 1 [U x'])::rest):=by
 obtain ⟨he,hC⟩:=hC;refine ⟨he,fun c vals hn hh hx=> ?_⟩;have hz:lk ((0, .arr 0 1 [U x0])::rest) .nil 0= .arr 0 1 [U x0]:=rfl;have ho:∀(x:Int) (r:Nat),r≠0→lk ((0, .arr 0 1 [U x])::rest) .nil r=lk rest .nil r:=fun x r hr=>by simp only [lk];rw [if_neg (Ne.symm hr)]
 have h1z:lk (Af x0) .nil 0= .arr 0 1 [U x0]:=rfl;have h1o:∀r:Nat,r≠0→lk (Af x0) .nil r= .nil:=fun r hr=>by simp only [Af,lk];rw [if_neg (Ne.symm hr)]
 generalize hH:lk ((0, .arr 0 1 [U x0])::rest) .nil=h at *;generalize hH1:lk (Af x0) .nil=h1 at *;have ho0:∀r:Nat,r≠0→h r=lk rest .nil r:=fun r hr=>by rw [←hH];exact ho x0 r hr
 let c1:Cx:={ w:=c.w,bl:=c.bl,rl:=c.rl,okT:=fun _=>True,okF:=fun _=>True,n0:=c.w.heap.size };have mut0:∀b,dL c1 h1 b→c.rl 0=true∧c.bl 0=b:=fun b ⟨r,g,sz,es,hr,hl,hb⟩=>by
  by_cases h0:r=0
  ·subst h0;exact ⟨hl,hb⟩
  ·rw [h1o r h0] at hr;cases hr
 have mut1:∀b,dL c1 h1 b→dL c h b:=fun b hm=>⟨0,_,_,_,hz,(mut0 b hm).1,(mut0 b hm).2⟩
 have st1:∀f b,Dx c h f b→Dx c1 h1 false b:=fun f b hs=>⟨hs.1,fun hm=>hs.2.1 (mut1 b hm), .inr (.inl trivial)⟩
 have nm:∀r g sz es,r≠0→h r= .arr g sz es→c.rl r=true→¬dL c1 h1 (c.bl r):=fun r g sz es h0 hr hl hm=>by
  obtain ⟨m1,m2⟩:=mut0 _ hm;exact h0 (hh.inj 0 r 0 g 1 sz _ es hz hr m1 hl m2).symm
 have bor:∀r g sz es,r≠0→h r= .arr g sz es→c.rl r=true→Dx c1 h1 false (c.bl r):=fun r g sz es h0 hr hl=>by
  obtain ⟨cs,ty,a1,_⟩:=hh.ar r g sz es hr hl;exact ⟨lt_of_block a1,nm r g sz es h0 hr hl, .inr (.inl trivial)⟩
 have lit:∀(x:Int) (i:Nat) (e:AV) (j:Nat) (u:AV),[U x][i]? =some e→e.cs[j]? =some u→u=U x:=fun x i e j u he hj=>by
  cases i with
  | zero =>
   simp at he;subst he;cases j with
   | zero=>simp [AV.cs] at hj;exact hj.symm
   | succ j=>simp [AV.cs] at hj
  | succ i=>simp at he
 have RH1:BH c1 h1:={
  ar:=fun r g sz es hr hl=>by
   by_cases h0:r=0
   ·subst h0
    rw [h1z] at hr;injection hr with e1 e2 e3;subst e1 e2 e3
    obtain ⟨cs,ty,a1,a2,a3,a4⟩:=hh.ar 0 0 1 _ hz hl
    refine ⟨cs,ty,a1,a2,a3,fun i e j u he hj=> ?_⟩
    obtain ⟨y,hy,hk⟩:=a4 i e j u he hj
    rw [lit x0 i e j u he hj] at hk ⊢
    cases hk
    exact ⟨_,hy, .v _⟩
   ·rw [h1o r h0] at hr;cases hr
  em:=fun r g sz es hr hl=>by
   by_cases h0:r=0
   ·subst h0;rw [h1z,←hz] at hr;exact hh.em 0 g sz es hr hl
   ·rw [h1o r h0] at hr;cases hr
  inj:=fun r r' g g' sz sz' es es' hr hr' _ _ _=>by
   by_cases h0:r=0
   ·by_cases h0' :r' =0
    ·rw [h0,h0']
    ·rw [h1o r' h0'] at hr';cases hr'
   ·rw [h1o r h0] at hr;cases hr }
 refine (hC c1 vals rfl RH1 (hv c c1 vals rfl rfl hh st1 bor hx)).mono ?_;rintro e w' ⟨v,x,hl,c1',rfl,rfl,hRx,K1,RH1',RV1⟩;obtain ⟨x',r0,g0,o0,n0,f0,sz0,es0,hx',rfl⟩:=hR x hl hRx;let c' :Cx:={ w:=c1'.w,bl:=fun r=>if r=0 then c1'.bl 0 else c.bl r,rl:=fun r=>if r=0 then c1'.rl 0 else c.rl r,okT:=c.okT,okF:=c.okF,n0:=c.n0 };have b0:c'.bl 0=c1'.bl 0∧c'.rl 0=c1'.rl 0:=⟨rfl,rfl⟩;have bo:∀r:Nat,r≠0→c'.bl r=c.bl r∧c'.rl r=c.rl r:=fun r h0=>⟨if_neg h0,if_neg h0⟩
 have hz' :lk ((0, .arr 0 1 [U x'])::rest) .nil 0= .arr 0 1 [U x']:=rfl;have ho' :∀r:Nat,r≠0→lk ((0, .arr 0 1 [U x'])::rest) .nil r=h r:=fun r hr=>by rw [ho x' r hr,ho0 r hr]
 generalize hH' :lk ((0, .arr 0 1 [U x'])::rest) .nil=h' at *;have K:Bj c h c' h' :={
  os:=K1.os
  tape:=K1.tape
  output:=K1.output
  size:=K1.size
  dr:=K1.dr
  blk:=fun b hb hm=>K1.blk b hb fun h=>hm (mut1 b h)
  dd:=fun r hr=>by
   by_cases h0:r=0
   ·subst h0;rw [hz] at hr;cases hr
   ·rw [ho' r h0];exact hr
  ar:=fun r g sz es hr=>by
   by_cases h0:r=0
   ·subst h0
    rw [hz] at hr;injection hr with e1 e2 e3;subst e1 e2 e3
    rcases K1.ar 0 0 1 _ h1z with hd|⟨g',es',ha,hle,heq⟩
    ·rw [hx'] at hd;cases hd
    ·rw [hx'] at ha;injection ha with f1 f2 f3;subst f1 f3
     refine .inr ⟨0,_,hz',Nat.le_refl _,fun _=> ?_⟩
     obtain ⟨d1,d2,d3⟩:=heq rfl
     exact ⟨b0.1.trans d1,b0.2.trans d2,d3⟩
   ·obtain ⟨q1,q2⟩:=bo r h0
    refine .inr ⟨g,es,by rw [ho' r h0];exact hr,Nat.le_refl _,fun _=>⟨q1,q2,fun hrl cs ty hcs=>⟨cs,?_,rfl⟩⟩⟩
    rw [←hcs]
    exact K1.blk _ (lt_of_block hcs) (nm r g sz es h0 hr hrl)
  fr:=fun r g sz es hr hrl=>by
   by_cases h0:r=0
   ·subst h0
    rw [hz'] at hr;injection hr with e1 e2 e3;subst e1 e2 e3
    rcases K1.fr 0 0 1 _ hx' (by rw [←b0.2];exact hrl) with k1|⟨g0,es0,k1,k2,k3⟩
    ·exact .inl (by rw [b0.1];exact k1)
    ·exact .inr ⟨0,_,hz,k2,by rw [b0.1];exact k3⟩
   ·obtain ⟨q1,q2⟩:=bo r h0
    exact .inr ⟨g,es,by rw [←ho' r h0];exact hr,by rw [←q2];exact hrl,q1⟩
  okT:=rfl
  okF:=rfl
  n0:=rfl }
 have one:∃y z,v= .agg #[y,z]∧y.oneCell' =true∧z.oneCell' =true:=by
  cases RV1 with
  | agg l ys hl hv =>
   obtain ⟨ys⟩:=ys;match ys,hl with
   | [y,z],_ =>
    refine ⟨y,z,rfl,?_,?_⟩
    ·cases hv 0 _ y rfl rfl with
     | rsl _ _ _ _ _ h _=>exact h
    ·cases hv 1 _ z rfl rfl with
     | slE=>rfl
     | sl=>rfl
 have qRH:BH c' h' := ?_
 ·obtain ⟨qK5,qH5,qV5⟩:=w9 qRH (nm:=5) (by rw [ho' 5 (by decide),ho0 5 (by decide)];exact h5);have e5:Bc [(5, .dead)] h' =lk ((5, .dead)::(0, .arr 0 1 [U x'])::rest) .nil:=by
   funext r;rw [←hH'];by_cases hr:5=r
   ·subst hr;simp [Bc,lk]
   ·simp only [Bc,List.foldl,lk];rw [if_neg hr,if_neg (Ne.symm hr)]
  rw [e5] at qK5 qH5 qV5;obtain ⟨y,z,rfl,hy,hz2⟩:=one;refine ⟨_, .agg [.rsl 5 0 0 0, .rsl 5 0 0 0],_,c',rfl,rfl,⟨x',rfl,rfl⟩,K.trans qK5,qH5,?_⟩;refine .agg _ _ rfl fun i u y hu hy=> ?_
  match i,hu,hy with
  | 0,hu,hy=>simp at hu hy;subst hu hy;exact qV5 _ (by assumption)
  | 1,hu,hy=>simp at hu hy;subst hu hy;exact qV5 _ (by assumption)
  | n+2,hu,_=>simp at hu
 have far:∀r g sz es,r≠0→h r= .arr g sz es→c.rl r=true→c1'.rl 0=true→c1'.bl 0≠c.bl r:=fun r g sz es h0 hr hrl hrl0 he=>by
  obtain ⟨cs,ty,a1,_⟩:=hh.ar r g sz es hr hrl;have:=lt_of_block a1;rcases K1.fr 0 0 1 _ hx' hrl0 with k1|⟨g0,es0,k1,k2,k3⟩
  ·have k1' :c.w.heap.size≤c1'.bl 0:=k1;omega
  ·have k3' :c1'.bl 0=c.bl 0:=k3;exact h0 (hh.inj 0 r 0 g 1 sz _ es hz hr k2 hrl (by rw [←k3',he])).symm
 refine { ar:=fun r g sz es hr hrl=> ?_,em:=fun r g sz es hr hrl=> ?_,inj:=fun r r' g g' sz sz' es es' hr hr' hrl hrl' hb=> ?_ }
 ·by_cases h0:r=0
  ·subst h0;rw [hz'] at hr;injection hr with e1 e2 e3;subst e1 e2 e3
   obtain ⟨cs,ty,a1,a2,a3,a4⟩:=RH1'.ar 0 0 1 _ hx' (by rw [←b0.2];exact hrl);refine ⟨cs,ty,by rw [b0.1];exact a1,a2,a3,fun i e j u he hj=> ?_⟩;obtain ⟨y,hy,hk⟩:=a4 i e j u he hj;rw [lit x' i e j u he hj] at hk ⊢;cases hk;exact ⟨_,hy, .v _⟩
  ·obtain ⟨q1,q2⟩:=bo r h0;rw [ho' r h0] at hr;rw [q2] at hrl;obtain ⟨cs,ty,a1,a2,a3,a4⟩:=hh.ar r g sz es hr hrl;refine ⟨cs,ty,?_,a2,a3,fun i e j u he hj=> ?_⟩
   ·rw [q1];exact (K1.blk _ (lt_of_block a1) (nm r g sz es h0 hr hrl)).trans a1
   ·obtain ⟨y,hy,hk⟩:=a4 i e j u he hj;exact ⟨y,hy,hk.ext K.ext⟩
 ·by_cases h0:r=0
  ·subst h0;rw [hz'] at hr;injection hr with e1 e2 e3;subst e1 e2 e3
   exact RH1'.em 0 0 1 _ hx' (by rw [←b0.2];exact hrl)
  ·rw [ho' r h0] at hr;rw [(bo r h0).2] at hrl;exact hh.em r g sz es hr hrl
 ·by_cases h0:r=0<;>by_cases h0' :r' =0
  ·rw [h0,h0']
  ·exfalso;subst h0;rw [ho' r' h0'] at hr';rw [(bo r' h0').2] at hrl';rw [b0.2] at hrl;rw [b0.1,(bo r' h0').1] at hb;exact far r' g' sz' es' h0' hr' hrl' hrl hb
  ·exfalso;subst h0';rw [ho' r h0] at hr;rw [(bo r h0).2] at hrl;rw [b0.2] at hrl';rw [b0.1,(bo r h0).1] at hb;exact far r g sz es h0 hr hrl hrl' hb.symm
  ·rw [ho' r h0] at hr;rw [ho' r' h0'] at hr';rw [(bo r h0).2] at hrl;rw [(bo r' h0').2] at hrl';rw [(bo r h0).1,(bo r' h0').1] at hb;exact hh.inj r r' g g' sz sz' es es' hr hr' hrl hrl' hb
abbrev Sg (nm g:Nat) (f:Fm):AV:= .agg [I f.wh, .rsl nm g 0 f.ks.length,B f.ag]
theorem wO {P:Program} {f:Nat} {ys:List AV} {hc:Hl} {R R' :AV→Hl→Prop} (hC:Bb P f ys hc R)
  (h:∀v hl,R v hl→R' v hl∨∃a b gn sz hl',v= .agg [a,Bw,b]∧lk hl .nil 1= .nil∧lk hl' .nil=Bc [(1, .arr gn sz [])] (lk hl .nil)∧R' (.agg [a, .rsl 1 gn 0 0,b]) hl'):Bb P f ys hc R' :=by
 refine ⟨hC.1,fun c vals hn hh hx=>(hC.2 c vals hn hh hx).mono ?_⟩;rintro e w' ⟨v,x,hl,c',rfl,rfl,hR,K,H,V⟩;rcases h x hl hR with h1|⟨a,b,gn,sz,hl',rfl,hn1,he,hR'⟩
 ·exact ⟨v,x,hl,c',rfl,rfl,h1,K,H,V⟩
 ·obtain ⟨c2,e2,K2,H2,qV2⟩:=Nh H hn1 gn sz;refine ⟨v,_,hl',c2,rfl,e2,hR',by rw [he];exact K.trans K2,by rw [he];exact H2,?_⟩;rw [he];cases V with
  | agg l ys hl hv =>
   refine .agg _ _ hl fun i u y hu hy=> ?_
   match i,hu with
   | 0,hu=>exact (hv 0 u y hu hy).ext K2.ext
   | 1,hu =>
    have h1:=hv 1 Bw y rfl hy;simp at hu;subst hu;rw [As h1];exact qV2
   | 2,hu=>exact (hv 2 u y hu hy).ext K2.ext
   | n+3,hu=>simp at hu
theorem wV (x:Int) (s:AL) (hv:AP s=0):Hn Tryz.prog 107 [.ref 0 0 0 0,AO s] (Af x) (fun a:Fm×Nat×Int=>Sg 1 a.2.1 a.1) (fun a=>[(0, .arr 0 1 [U a.2.2]),(1, .arr a.2.1 1 (a.1.ks.map I))]) (fun a=>a.1.ks.length≤1000):=by
 obtain ⟨p1,p2,p3,p4⟩:=A7 hv;have V:=AU hv;have hme:=V.me;have hco:=V.co;have CP:=Cm s (by have:=V.su3;omega);rw [p1] at CP;obtain ⟨P,hP⟩:∃P,AQ s=P:=⟨_,rfl⟩;have CD:=fun x' =>LZ x' s hv (3*s.me+1) (by omega) (by omega)
 rw [hP] at CD p3 p4;rw [hP] at CP;clear V;unfold Hn;refine wO (R:=fun v h=>∃(f:Fm) (g:Nat) (y:Int),f.ks.length≤1000∧((f.ks=[]∧v= .agg [I f.wh,Bw,B f.ag]∧h=Af y)∨(v=Sg 1 g f∧h=[(0, .arr 0 1 [U y]),(1, .arr g 1 (f.ks.map I))]))) ?_ (fun v h hr=>by
  obtain ⟨f,g,y,h1,⟨h0,rfl,rfl⟩|⟨rfl,rfl⟩⟩:=hr
  ·refine .inr ⟨_,_,0,1,[(0, .arr 0 1 [U y]),(1, .arr 0 1 [])],rfl,rfl,?_,(f,0,y),h1,?_,?_⟩
   ·funext r
    by_cases e0:0=r
    ·subst e0;rfl
    ·by_cases e1:1=r
     ·subst e1;rfl
     ·simp [Af,lk,Bc,e0,e1,Ne.symm e1]
   ·simp [h0]
   ·simp [h0]
  ·exact .inl ⟨(f,g,y),h1,rfl,rfl⟩)
 unfold Af;have b1:=Av (x:=x) (n:=6) (by omega) (by omega);by_cases c2:1+BC x 6=2
 ·refine FL 1 Tryz.ntmps107 ?_;let tb:=L6;let lv:=JX;(have fa:= @Af.eq_1;(repeat' first|refine zJ (tg [0]) (EC _ 1 6 (by omega) (by omega) (by omega)) ?_|refine zJ (tg [0]) (Dt _ 2 (by omega)) ?_|refine zQ ?_|refine zN ?_;intro K hC hK|refine zM ?_;try clear hK hC K|refine zC ?_ ?_<;>intro hb|refine zK ?_;intro Jo JU JC AH AJ AG)<;>(try clear fa))
  refine Aa [(0,0)] ?_ ?_<;>(first|exact AK|refine zE ?_);exact ⟨⟨1+BC x 6,[],BC (AR x) 2==0⟩,0,_,by simp, .inl ⟨rfl,rfl,rfl⟩⟩
 ·by_cases c3:1+BC x 6=3
  ·refine FL 1 Tryz.ntmps107 ?_;let tb:=L6;let lv:=JX;(have fa:= @Af.eq_1;(repeat' first|refine zJ (tg [0]) (EC _ 1 6 (by omega) (by omega) (by omega)) ?_|refine zQ ?_|refine zN ?_;intro K hC hK|refine zM ?_;try clear hK hC K|refine zC ?_ ?_<;>intro hb|refine zK ?_;intro Jo JU JC AH AJ AG)<;>(try clear fa))
   (have fa:= @Af.eq_1;refine zX (tg [0]) (CD _) ?_;clear AH AJ AG Jo JU JC;(try clear fa));intro xr hxr;(repeat' first|refine zQ ?_|refine zN ?_;intro K hC hK|refine zM ?_;try clear hK hC K|refine zC ?_ ?_<;>intro hb|refine zK ?_;intro Jo JU JC AH AJ AG)
   refine Aa [(0,0),(369,1)] ?_ ?_<;>(first|exact AK|refine zE ?_);exact ⟨⟨1+BC x 6,xr.1,false⟩,xr.2.1,xr.2.2,hxr.len (by omega), .inr ⟨rfl,rfl⟩⟩
  ·by_cases c6:1+BC x 6=6
   ·refine FL 1 Tryz.ntmps107 ?_;let tb:=L6;let lv:=JX;(have fa:= @Af.eq_1;(repeat' first|refine zJ (tg [0]) (EC _ 1 6 (by omega) (by omega) (by omega)) ?_|refine zQ ?_|refine zN ?_;intro K hC hK|refine zM ?_;try clear hK hC K|refine zC ?_ ?_<;>intro hb|refine zK ?_;intro Jo JU JC AH AJ AG)<;>(try clear fa))
    refine A8 (Jf 144 0 3 500 0 1 1 (by rfl) (by rfl) (by rfl)) (α:=Nat×Int×List Int×Nat×Int) (fun a=>[(0, .ref 0 0 0 0),(3, .ref 2 0 0 0),(4, .ref 3 0 0 0),(5, .ref 4 0 0 0),(6,I a.1),(7,I a.2.1)])
     (fun a=>[(0, .arr 0 1 [U a.2.2.2.2]),(1, .arr a.2.2.2.1 1 (a.2.2.1.map I)),(2, .arr 0 9 [AO s]),(3, .arr 0 3 [.agg [I 0,Bw,B false]]),(4, .arr 0 3 [.agg [I (1+BC x 6), .rsl 1 a.2.2.2.1 0 a.2.2.1.length,B false]])])
     (fun a=>(P-a.1).toNat) (fun a=>(a.1:Int)≤P∧0≤a.2.1∧a.2.2.1.length+a.2.1≤14) [(0,0),(500,1),(64,2),(80,3),(144,4)] [(0,0),(1,1),(2,2),(3,3),(4,4)] 0 [0,3,4,5,6,7] 900 zg zg (0,3*s.me+2,[],0,AR x) ⟨by dsimp only;omega,by dsimp only;omega,by simp;omega⟩ (by (have fa:=(And.intro @I1.eq_1 @Bw.eq_1);exact CZ)) ?_
    rintro ⟨k,n,l,g,x'⟩ ⟨k1,k2,k3⟩ J hcJ hJ;dsimp only at k1 k2 k3 hJ ⊢;have bb:=Av (x:=x') (n:=s.co+1) (by omega) (by omega);have CB:=BI x' (s.co+1) (by omega);by_cases hk:(k:Int)<P
    ·by_cases h0:0<n
     ·(have fa:= @Af.eq_1;(repeat' first|refine zS CP ?_|refine zJ (tg [0]) CB ?_|refine zQ ?_|refine zN ?_;intro K hC hK|refine zM ?_;try clear hK hC K|refine zC ?_ ?_<;>intro hb|refine zK ?_;intro Jo JU JC AH AJ AG)<;>(try clear fa))
      generalize BC x' (s.co+1)=i0 at *;refine At (α:=Int×Int×List Int×Nat) (fun a=>[(0, .ref 0 0 0 0),(3, .ref 2 0 0 0),(4, .ref 3 0 0 0),(5, .ref 4 0 0 0),(6,I k),(7,I a.2.1),(8,I a.1)])
       (fun a=>[(0, .arr 0 1 [U (AR x')]),(1, .arr a.2.2.2 1 (a.2.2.1.map I)),(2, .arr 0 9 [AO s]),(3, .arr 0 3 [.agg [I 0,Bw,B false]]),(4, .arr 0 3 [.agg [I (1+BC x 6), .rsl 1 a.2.2.2 0 a.2.2.1.length,B false]])])
       (fun a=>a.1.toNat) (fun a=>(0≤a.1∧a.1≤10)∧0≤a.2.1∧a.2.2.1.length+a.2.1≤14) [(0,0),(1,1),(2,2),(3,3),(4,4)] [(0,0),(1,1),(2,2),(3,3),(4,4)] 0 [0,3,4,5,6,7,8] 1900 zg zg (i0,n,l,g) ⟨by dsimp only;omega,k2,k3⟩ (by exact CZ) ?_
      rintro ⟨i,n,l,g⟩ ⟨k4,k2,k3⟩ J2 hcJ2 hJ2;dsimp only at k4 k2 k3 hJ2 ⊢;by_cases h1:0<i
      ·by_cases h2:0<n
       ·(repeat' first|refine zQ ?_|refine zN ?_;intro K hC hK|refine zM ?_;try clear hK hC K|refine zC ?_ ?_<;>intro hb|refine zK ?_;intro Jo JU JC AH AJ AG)
        refine hJ2 _ (i-1,n-1,l++[(k:Int)],g+1) (by dsimp only;omega) ⟨by dsimp only;omega,by dsimp only;omega,by simp;omega⟩ (by (have fa:= @List.length_append.{0};exact CZ))
       ·(repeat' first|refine zQ ?_|refine zN ?_;intro K hC hK|refine zM ?_;try clear hK hC K|refine zC ?_ ?_<;>intro hb|refine zK ?_;intro Jo JU JC AH AJ AG)
        refine hJ _ (k+1,n,l,g,AR x') (by dsimp only;omega) ⟨by dsimp only;omega,k2,k3⟩ (by exact CZ)
      ·(repeat' first|refine zQ ?_|refine zN ?_;intro K hC hK|refine zM ?_;try clear hK hC K|refine zC ?_ ?_<;>intro hb|refine zK ?_;intro Jo JU JC AH AJ AG)
       refine hJ _ (k+1,n,l,g,AR x') (by dsimp only;omega) ⟨by dsimp only;omega,k2,k3⟩ (by exact CZ)
     ·(repeat' first|refine zS CP ?_|refine zQ ?_|refine zN ?_;intro K hC hK|refine zM ?_;try clear hK hC K|refine zC ?_ ?_<;>intro hb|refine zK ?_;intro Jo JU JC AH AJ AG)
      refine Aa [(0,0),(1,1)] ?_ ?_<;>(first|exact AK|refine zE ?_);exact ⟨⟨1+BC x 6,l,false⟩,g,_,by dsimp only;omega, .inr ⟨rfl,rfl⟩⟩
    ·(repeat' first|refine zS CP ?_|refine zQ ?_|refine zN ?_;intro K hC hK|refine zM ?_;try clear hK hC K|refine zC ?_ ?_<;>intro hb|refine zK ?_;intro Jo JU JC AH AJ AG)
     refine Aa [(0,0),(1,1)] ?_ ?_<;>(first|exact AK|refine zE ?_);exact ⟨⟨1+BC x 6,l,false⟩,g,_,by dsimp only;omega, .inr ⟨rfl,rfl⟩⟩
   ·refine FL 1 Tryz.ntmps107 ?_;let tb:=L6;let lv:=JX;(have fa:= @Af.eq_1;(repeat' first|refine zJ (tg [0]) (EC _ 1 6 (by omega) (by omega) (by omega)) ?_|refine zQ ?_|refine zN ?_;intro K hC hK|refine zM ?_;try clear hK hC K|refine zC ?_ ?_<;>intro hb|refine zK ?_;intro Jo JU JC AH AJ AG)<;>(try clear fa))
    refine Aa [(0,0)] ?_ ?_<;>(first|exact AK|refine zE ?_);exact ⟨⟨1+BC x 6,[],false⟩,0,_,by simp, .inl ⟨rfl,rfl,rfl⟩⟩
def J5 (b ga gb gc:Nat):List Fm→List AV
 | []=>[]
 | [f]=>[Sg b ga f]
 | [f,f1]=>[Sg b ga f,Sg (b+1) gb f1]
 | f::f1::f2::_=>[Sg b ga f,Sg (b+1) gb f1,Sg (b+2) gc f2]
def Sl:List Fm→List AV
 | f::_=>f.ks.map I
 | []=>[]
def W5:List Fm→List AV
 | _::f::_=>f.ks.map I
 | _=>[]
def wR:List Fm→List AV
 | _::_::f::_=>f.ks.map I
 | _=>[]
def xK (gf ga gb gc:Nat) (l:List Fm):Hl:=[(1, .arr gf 3 (J5 2 ga gb gc l)),(2, .arr ga 1 (Sl l)),(3, .arr gb 1 (W5 l)),(4, .arr gc 1 (wR l))]
theorem xG {gf ga gb gc:Nat} {l:List Fm} (h3:l.length≤3) {i:Nat} {e e' :AV} (he:(J5 2 ga gb gc l)[i]? =some e) (he' :(l.map (DN false))[i]? =some e') :
  ∃(j g:Nat) (f:Fm),j≠0∧e=Sg j g f∧e' =DN false f∧lk (xK gf ga gb gc l) .nil j= .arr g 1 (f.ks.map I):=by
 match l,h3 with
 | [],_=>cases he
 | [a],_ =>
  match i with
  | 0=>injection he with he;injection he' with he';exact ⟨2,ga,a,by decide,he.symm,he'.symm,rfl⟩
  | n+1=>cases he
 | [a,b],_ =>
  match i with
  | 0=>injection he with he;injection he' with he';exact ⟨2,ga,a,by decide,he.symm,he'.symm,rfl⟩
  | 1=>injection he with he;injection he' with he';exact ⟨3,gb,b,by decide,he.symm,he'.symm,rfl⟩
  | n+2=>cases he
 | [a,b,c],_ =>
  match i with
  | 0=>injection he with he;injection he' with he';exact ⟨2,ga,a,by decide,he.symm,he'.symm,rfl⟩
  | 1=>injection he with he;injection he' with he';exact ⟨3,gb,b,by decide,he.symm,he'.symm,rfl⟩
  | 2=>injection he with he;injection he' with he';exact ⟨4,gc,c,by decide,he.symm,he'.symm,rfl⟩
  | n+3=>cases he
 | a::b::c::d::r,h=>simp at h
theorem wQ (b ga gb gc:Nat) {l:List Fm} (h3:l.length≤3):(J5 b ga gb gc l).length=l.length:=by
 match l,h3 with
 | [],_=>rfl
 | [a],_=>rfl
 | [a,b],_=>rfl
 | [a,b,c],_=>rfl
 | a::b::c::d::r,h=>simp at h
def SR (nm gn sz:Nat) (σ:St):St:=⟨σ.nx,σ.tm,Ci σ.hp nm (.arr gn sz [])⟩
theorem Y1 {nt ne:Nat} {σ:St} (nm gn sz:Nat) (h2:lk σ.hp .nil nm= .nil):Wk nt ne σ (SR nm gn sz σ):=fun c0 h0 c a he hn hr=>by
 obtain ⟨c',e,k,r,v⟩:=Nh hr.hp h2 gn sz;have eh:lk (SR nm gn sz σ).hp .nil=Bc [(nm, .arr gn sz [])] (lk σ.hp .nil):=by
  funext q;simp only [SR,GV,Bc,List.foldl];by_cases hq:nm=q
  ·simp [hq]
  ·simp [hq,Ne.symm hq]
 refine ⟨c',e,⟨by rw [eh];exact hr.kp.trans k,by rw [eh];exact r,hr.fr.sz,hr.fr.df,fun s=> ?_⟩⟩;rw [eh];exact (hr.fr.tm s).ext k.ext
theorem P3 {es:List AV} {i nm gn:Nat} {a b:AV} (h:es[i]? =some (.agg [a,Bw,b])) (k:Nat) (e e' :AV) (he:es[k]? =some e) (he' :(es.set i (.agg [a, .rsl nm gn 0 0,b]))[k]? =some e'):e'.cs.length=e.cs.length∧∀(j:Nat) (u u' :AV),e.cs[j]? =some u→e'.cs[j]? =some u' →u' =u∨(u=Bw∧u' = .rsl nm gn 0 0):=by
 by_cases hk:i=k
 ·subst hk;rw [h] at he;injection he with he;subst he
  rw [List.getElem?_set] at he';have hi:=(List.getElem?_eq_some_iff.1 h).1;simp [hi] at he';subst he';refine ⟨rfl,fun j u u' hu hu' => ?_⟩;match j,hu,hu' with
  | 0,hu,hu' =>injection hu with hu;injection hu' with hu';subst hu hu';exact .inl rfl
  | 1,hu,hu' =>injection hu with hu;injection hu' with hu';subst hu hu';exact .inr ⟨rfl,rfl⟩
  | 2,hu,hu' =>injection hu with hu;injection hu' with hu';subst hu hu';exact .inl rfl
  | n+3,hu,_=>cases hu
 ·rw [List.getElem?_set_ne hk,he] at he';injection he' with he';subst he'
  refine ⟨rfl,fun j u u' hu hu' => ?_⟩;rw [hu] at hu';injection hu' with hu';exact .inl hu'.symm
theorem A4 {s:AL} (hv:AP s=0):Az s ⟨1,[],false⟩=0∧([]:List Int).length≤1000:=⟨I8 hv,by simp⟩
structure xJ where
 l:List Fm
 g:Nat
 ga:Nat
 gb:Nat
 gc:Nat
 x:Int
structure xH (s:AL) (a:xJ):Prop where
 fo:∀f∈a.l,Az s f=0∧f.ks.length≤1000
 f1:1≤a.l.length
 f3:a.l.length≤3
def xM (a:xJ):Hl:=(0, .arr 0 1 [U a.x])::xK a.g a.ga a.gb a.gc a.l
set_option maxHeartbeats 8000000 in
theorem wP (x:Int) (s:AL) (hv:AP s=0):Hn Tryz.prog 43 [.ref 0 0 0 0,AO s] (Af x) (fun a:xJ=> .rsl 1 a.g 0 a.l.length) xM (xH s):=by
 have CF:=fun x' =>wV x' s hv
 have hsl:=(AU hv).su3;unfold Hn Af;refine DX ?_;have b1:=Av (x:=x) (n:=3) (by omega) (by omega);refine FL 1 Tryz.ntmps43 ?_;let tb:=fD;let lv:=Yt;(have fa:= @Af.eq_1;(repeat' first|refine zJ (tg [0]) (BI _ 3 (by omega)) ?_|refine zQ ?_|refine zN ?_;intro K hC hK|refine zM ?_;try clear hK hC K|refine zC ?_ ?_<;>intro hb|refine zK ?_;intro Jo JU JC AH AJ AG)<;>(try clear fa))
 generalize BC x 3=i0 at *;refine A8 (((BY 5 500 0 3 (by rfl) (by rfl)).trans (Y1 516 0 1 (by rfl))).trans (Y1 532 0 1 (by rfl))) (α:=Int×xJ) (fun a=>[(0, .ref 0 0 0 0),(3, .ref 2 0 0 0),(5, .rsl 1 a.2.g 0 a.2.l.length),(6,I a.1)]) (fun a=>[(0, .arr 0 1 [U a.2.x]),(1, .arr a.2.g 3 (J5 3 a.2.ga a.2.gb 0 a.2.l)),(2, .arr 0 9 [AO s]),(3, .arr a.2.ga 1 (Sl a.2.l)),(4, .arr a.2.gb 1 (W5 a.2.l))])
  (fun a=>a.1.toNat) (fun a=>(0≤a.1∧a.1≤2)∧a.2.l.length+a.1≤2∧∀f∈a.2.l,Az s f=0∧f.ks.length≤1000) [(0,0),(500,1),(64,2),(516,3),(532,4)] [(0,0),(1,1),(2,2),(3,3),(4,4)] 0 [0,3,5,6] 900 zg zg (i0,⟨[],0,0,0,0,AR x⟩) ⟨by dsimp only;omega,by simp;omega,fun f hf=>by cases hf⟩ (by (have fa:=(And.intro @Dg.eq_1 (And.intro @SR.eq_1 (And.intro (And.intro @Ci.eq_1 @Ci.eq_2) (And.intro (And.intro @J5.eq_1 (And.intro @J5.eq_2 (And.intro @J5.eq_3 @J5.eq_4))) (And.intro (And.intro @Sl.eq_1 @Sl.eq_2) (And.intro @W5.eq_1 @W5.eq_2))))));exact CZ)) ?_
 rintro ⟨i,⟨l,g,ga,gb,gc,x'⟩⟩ ⟨k1,k2,k3⟩ J hcJ hJ;dsimp only at k1 k2 k3 hJ ⊢;by_cases hi:0<i
 ·match l,k2,k3,hJ with
  | [],k2,k3,hJ =>
   simp only [J5,Sl,W5] at hJ ⊢;(repeat' first|refine zQ ?_|refine zN ?_;intro K hC hK|refine zM ?_;try clear hK hC K|refine zC ?_ ?_<;>intro hb|refine zK ?_;intro Jo JU JC AH AJ AG)
   (have fa:= @Af.eq_1;refine zX (tg [0]) (CF _) ?_;clear AH AJ AG Jo JU JC;(try clear fa));intro xr hxr;obtain ⟨f,gk,y⟩:=xr;dsimp only at hxr ⊢;have CC:AM Tryz.prog 21 [AO s, .agg [I f.wh, .sl false 1 (f.ks.map I),B f.ag]] (I (Az s f)):=Hh s f (by omega) (by omega);have hTk:f.ks.take f.ks.length=f.ks:=List.take_length;by_cases he:Az s f=0
   ·(have fa:=(And.intro hTk he);(repeat' first|refine zS CC ?_|refine zQ ?_|refine zN ?_;intro K hC hK|refine zM ?_;try clear hK hC K|refine zC ?_ ?_<;>intro hb|refine zK ?_;intro Jo JU JC AH AJ AG)<;>(try clear fa))
    refine hcJ.go [(0,0),(1,1),(2,2),(965,3),(4,4)] 0 [0,3,5,6] 900 [(0, .ref 0 0 0 0),(3, .ref 2 0 0 0),(5, .rsl 1 (g+1) 0 1),(6,I (i-1))] [(0, .arr 0 1 [U y]),(1, .arr (g+1) 3 [Sg 3 gk f]),(2, .arr 0 9 [AO s]),(3, .arr gk 1 (f.ks.map I)),(4, .arr gb 1 [])] zg (hJ _ (i-1,⟨[f],g+1,gk,gb,0,y⟩) (by dsimp only;omega) ⟨by dsimp only;omega,by simp;omega,fun f' hf=> ?_⟩ (by (have fa:=(And.intro (And.intro @J5.eq_1 (And.intro @J5.eq_2 (And.intro @J5.eq_3 @J5.eq_4))) (And.intro (And.intro @Sl.eq_1 @Sl.eq_2) (And.intro @W5.eq_1 @W5.eq_2)));exact C8))) (by exact C8);simp at hf;subst hf;exact ⟨he,hxr⟩
   ·(have fa:=(And.intro hTk he);(repeat' first|refine zS CC ?_|refine zQ ?_|refine zN ?_;intro K hC hK|refine zM ?_;try clear hK hC K|refine zC ?_ ?_<;>intro hb|refine zK ?_;intro Jo JU JC AH AJ AG)<;>(try clear fa))
    refine hJ _ (i-1,⟨[],g,ga,gb,0,y⟩) (by dsimp only;omega) ⟨by dsimp only;omega,by simp;omega,k3⟩ (by (have fa:=(And.intro (And.intro @J5.eq_1 (And.intro @J5.eq_2 (And.intro @J5.eq_3 @J5.eq_4))) (And.intro (And.intro @Sl.eq_1 @Sl.eq_2) (And.intro @W5.eq_1 @W5.eq_2)));exact C8))
  | [a],k2,k3,hJ =>
   simp only [J5,Sl,W5] at hJ ⊢;have k2' :i=1:=by simp at k2;omega
   subst k2';(repeat' first|refine zQ ?_|refine zN ?_;intro K hC hK|refine zM ?_;try clear hK hC K|refine zC ?_ ?_<;>intro hb|refine zK ?_;intro Jo JU JC AH AJ AG)
   (have fa:= @Af.eq_1;refine zX (tg [0]) (CF _) ?_;clear AH AJ AG Jo JU JC;(try clear fa));intro xr hxr;obtain ⟨f,gk,y⟩:=xr;dsimp only at hxr ⊢;have CC:AM Tryz.prog 21 [AO s, .agg [I f.wh, .sl false 1 (f.ks.map I),B f.ag]] (I (Az s f)):=Hh s f (by omega) (by omega);have hTk:f.ks.take f.ks.length=f.ks:=List.take_length;by_cases he:Az s f=0
   ·(have fa:=(And.intro hTk he);(repeat' first|refine zS CC ?_|refine zQ ?_|refine zN ?_;intro K hC hK|refine zM ?_;try clear hK hC K|refine zC ?_ ?_<;>intro hb|refine zK ?_;intro Jo JU JC AH AJ AG)<;>(try clear fa))
    refine hcJ.go [(0,0),(1,1),(2,2),(3,3),(965,4)] 0 [0,3,5,6] 900 [(0, .ref 0 0 0 0),(3, .ref 2 0 0 0),(5, .rsl 1 (g+1) 0 2),(6,I 0)] [(0, .arr 0 1 [U y]),(1, .arr (g+1) 3 [Sg 3 ga a,Sg 4 gk f]),(2, .arr 0 9 [AO s]),(3, .arr ga 1 (a.ks.map I)),(4, .arr gk 1 (f.ks.map I))] zg (hJ _ (0,⟨[a,f],g+1,ga,gk,0,y⟩) (by dsimp only;omega) ⟨by dsimp only;omega,by simp,fun f' hf=> ?_⟩ (by (have fa:=(And.intro (And.intro @J5.eq_1 (And.intro @J5.eq_2 (And.intro @J5.eq_3 @J5.eq_4))) (And.intro (And.intro @Sl.eq_1 @Sl.eq_2) (And.intro @W5.eq_1 @W5.eq_2)));exact C8))) (by exact C8);simp at hf;rcases hf with rfl|rfl
    ·exact k3 _ (by simp)
    ·exact ⟨he,hxr⟩
   ·(have fa:=(And.intro hTk he);(repeat' first|refine zS CC ?_|refine zQ ?_|refine zN ?_;intro K hC hK|refine zM ?_;try clear hK hC K|refine zC ?_ ?_<;>intro hb|refine zK ?_;intro Jo JU JC AH AJ AG)<;>(try clear fa))
    refine hJ _ (0,⟨[a],g,ga,gb,0,y⟩) (by dsimp only;omega) ⟨by dsimp only;omega,by simp,k3⟩ (by (have fa:=(And.intro (And.intro @J5.eq_1 (And.intro @J5.eq_2 (And.intro @J5.eq_3 @J5.eq_4))) (And.intro (And.intro @Sl.eq_1 @Sl.eq_2) (And.intro @W5.eq_1 @W5.eq_2)));exact C8))
  | a::b::r,k2,k3,hJ=>exfalso;simp at k2;omega
 ·match l,k2,k3 with
  | [],k2,k3 =>
   simp only [J5,Sl,W5];have b5:=Av (x:=x') (n:=1) (by omega) (by omega);have hm:BC x' 1=((0:Nat):Int):=by omega
   (have fa:=(And.intro @Af.eq_1 hm);(repeat' first|refine zJ (tg [0]) (BI x' 1 (by omega)) ?_|refine zQ ?_|refine zN ?_;intro K hC hK|refine zM ?_;try clear hK hC K|refine zC ?_ ?_<;>intro hb|refine zK ?_;intro Jo JU JC AH AJ AG)<;>(try clear fa))
   refine EH ?_;refine ⟨_,YJ 1108 _ 3 2000 0 1 (es:=[.agg [I 1,Bw,B false]]) (es' :=[.agg [I 1, .rsl 2000 0 0 0,B false]]) (by rfl) (by simp) (by rfl) rfl (P3 (i:=0) rfl), .inr rfl,?_,[(0,0),(1108,1),(2000,2),(3,3),(4,4)],2,⟨by decide,by decide,by decide⟩,?_⟩<;>(have fa:=(And.intro @I1.eq_1 (And.intro @SR.eq_1 (And.intro @Ci.eq_1 @Ci.eq_2)));first|exact AK|(refine zE ?_;try clear fa));refine ⟨_, .rfl',⟨[⟨1,[],false⟩],_,0,ga,gb,AR x'⟩,⟨fun f' hf=> ?_,by simp,by simp⟩,rfl,rfl⟩;simp at hf;subst hf;exact A4 hv
  | [a],k2,k3 =>
   simp only [J5,Sl,W5];have ha:=k3 a (by simp);have b4:=Av (x:=x') (n:=4) (by omega) (by omega);by_cases h4:0<BC x' 4
   ·have CB:=BI (AR x') 2 (by omega);have b5:=Av (x:=AR x') (n:=2) (by omega) (by omega);have hm:BC (AR x') 2=0∨BC (AR x') 2=1:=by omega
    rcases hm with hm|hm
    ·(have fa:=(And.intro @Af.eq_1 hm);(repeat' first|refine zJ (tg [0]) (BI x' 4 (by omega)) ?_|refine zJ (tg [0]) CB ?_|refine zQ ?_|refine zN ?_;intro K hC hK|refine zM ?_;try clear hK hC K|refine zC ?_ ?_<;>intro hb|refine zK ?_;intro Jo JU JC AH AJ AG)<;>(try clear fa))
     refine EH ?_;refine ⟨_,YJ 1156 _ 3 2000 0 1 (es:=[.agg [I 1,Bw,B false],Sg 3 ga a]) (es' :=[.agg [I 1, .rsl 2000 0 0 0,B false],Sg 3 ga a]) (by rfl) (by simp) (by rfl) rfl (P3 (i:=0) rfl), .inr rfl,?_,[(0,0),(1156,1),(2000,2),(3,3),(4,4)],2,⟨by decide,by decide,by decide⟩,?_⟩<;>(have fa:=(And.intro @I1.eq_1 (And.intro @SR.eq_1 (And.intro @Ci.eq_1 @Ci.eq_2)));first|exact AK|(refine zE ?_;try clear fa));refine ⟨_, .rfl',⟨[⟨1,[],false⟩,a],_,0,ga,gb,_⟩,⟨fun f' hf=> ?_,by simp,by simp⟩,rfl,rfl⟩;simp at hf;rcases hf with rfl|rfl
     ·exact A4 hv
     ·exact ha
    ·(have fa:=(And.intro @Af.eq_1 hm);(repeat' first|refine zJ (tg [0]) (BI x' 4 (by omega)) ?_|refine zJ (tg [0]) CB ?_|refine zQ ?_|refine zN ?_;intro K hC hK|refine zM ?_;try clear hK hC K|refine zC ?_ ?_<;>intro hb|refine zK ?_;intro Jo JU JC AH AJ AG)<;>(try clear fa))
     refine EH ?_;refine ⟨_,YJ 1156 _ 3 2000 0 1 (es:=[Sg 3 ga a, .agg [I 1,Bw,B false]]) (es' :=[Sg 3 ga a, .agg [I 1, .rsl 2000 0 0 0,B false]]) (by rfl) (by simp) (by rfl) rfl (P3 (i:=1) rfl), .inr rfl,?_,[(0,0),(1156,1),(3,2),(2000,3),(4,4)],2,⟨by decide,by decide,by decide⟩,?_⟩<;>(have fa:=(And.intro @I1.eq_1 (And.intro @SR.eq_1 (And.intro @Ci.eq_1 @Ci.eq_2)));first|exact AK|(refine zE ?_;try clear fa));refine ⟨_, .rfl',⟨[a,⟨1,[],false⟩],_,ga,0,gb,_⟩,⟨fun f' hf=> ?_,by simp,by simp⟩,rfl,rfl⟩;simp at hf;rcases hf with rfl|rfl
     ·exact ha
     ·exact A4 hv
   ·(have fa:= @Af.eq_1;(repeat' first|refine zJ (tg [0]) (BI x' 4 (by omega)) ?_|refine zQ ?_|refine zN ?_;intro K hC hK|refine zM ?_;try clear hK hC K|refine zC ?_ ?_<;>intro hb|refine zK ?_;intro Jo JU JC AH AJ AG)<;>(try clear fa))
    refine EH ?_;refine ⟨_,Y1 2000 0 1 (by rfl), .inr rfl,?_,[(0,0),(1,1),(3,2),(4,3),(2000,4)],2,⟨by decide,by decide,by decide⟩,?_⟩<;>(have fa:=(And.intro @I1.eq_1 (And.intro @SR.eq_1 (And.intro @Ci.eq_1 @Ci.eq_2)));first|exact AK|(refine zE ?_;try clear fa));refine ⟨_, .rfl',⟨[a],g,ga,gb,0,_⟩,⟨fun f' hf=> ?_,by simp,by simp⟩,rfl,rfl⟩;exact k3 f' hf
  | [a,b],k2,k3 =>
   simp only [J5,Sl,W5];have ha:=k3 a (by simp);have hb:=k3 b (by simp);have b4:=Av (x:=x') (n:=4) (by omega) (by omega);by_cases h4:0<BC x' 4
   ·have CB:=BI (AR x') 3 (by omega);have b5:=Av (x:=AR x') (n:=3) (by omega) (by omega);have hm:BC (AR x') 3=0∨BC (AR x') 3=1∨BC (AR x') 3=2:=by omega
    rcases hm with hm|hm|hm
    ·(have fa:=(And.intro @Af.eq_1 hm);(repeat' first|refine zJ (tg [0]) (BI x' 4 (by omega)) ?_|refine zJ (tg [0]) CB ?_|refine zQ ?_|refine zN ?_;intro K hC hK|refine zM ?_;try clear hK hC K|refine zC ?_ ?_<;>intro hb|refine zK ?_;intro Jo JU JC AH AJ AG)<;>(try clear fa))
     refine EH ?_;refine ⟨_,YJ 1156 _ 3 2000 0 1 (es:=[.agg [I 1,Bw,B false],Sg 3 ga a,Sg 4 gb b]) (es' :=[.agg [I 1, .rsl 2000 0 0 0,B false],Sg 3 ga a,Sg 4 gb b]) (by rfl) (by simp) (by rfl) rfl (P3 (i:=0) rfl), .inr rfl,?_,[(0,0),(1156,1),(2000,2),(3,3),(4,4)],2,⟨by decide,by decide,by decide⟩,?_⟩<;>(have fa:=(And.intro @I1.eq_1 (And.intro @SR.eq_1 (And.intro @Ci.eq_1 @Ci.eq_2)));first|exact AK|(refine zE ?_;try clear fa));refine ⟨_, .rfl',⟨[⟨1,[],false⟩,a,b],_,0,ga,gb,_⟩,⟨fun f' hf=> ?_,by simp,by simp⟩,rfl,rfl⟩;simp at hf;rcases hf with rfl|rfl|rfl
     ·exact A4 hv
     ·exact ha
     ·exact hb
    ·(have fa:=(And.intro @Af.eq_1 hm);(repeat' first|refine zJ (tg [0]) (BI x' 4 (by omega)) ?_|refine zJ (tg [0]) CB ?_|refine zQ ?_|refine zN ?_;intro K hC hK|refine zM ?_;try clear hK hC K|refine zC ?_ ?_<;>intro hb|refine zK ?_;intro Jo JU JC AH AJ AG)<;>(try clear fa))
     refine EH ?_;refine ⟨_,YJ 1156 _ 3 2000 0 1 (es:=[Sg 3 ga a, .agg [I 1,Bw,B false],Sg 4 gb b]) (es' :=[Sg 3 ga a, .agg [I 1, .rsl 2000 0 0 0,B false],Sg 4 gb b]) (by rfl) (by simp) (by rfl) rfl (P3 (i:=1) rfl), .inr rfl,?_,[(0,0),(1156,1),(3,2),(2000,3),(4,4)],2,⟨by decide,by decide,by decide⟩,?_⟩<;>(have fa:=(And.intro @I1.eq_1 (And.intro @SR.eq_1 (And.intro @Ci.eq_1 @Ci.eq_2)));first|exact AK|(refine zE ?_;try clear fa));refine ⟨_, .rfl',⟨[a,⟨1,[],false⟩,b],_,ga,0,gb,_⟩,⟨fun f' hf=> ?_,by simp,by simp⟩,rfl,rfl⟩;simp at hf;rcases hf with rfl|rfl|rfl
     ·exact ha
     ·exact A4 hv
     ·exact hb
    ·(have fa:=(And.intro @Af.eq_1 hm);(repeat' first|refine zJ (tg [0]) (BI x' 4 (by omega)) ?_|refine zJ (tg [0]) CB ?_|refine zQ ?_|refine zN ?_;intro K hC hK|refine zM ?_;try clear hK hC K|refine zC ?_ ?_<;>intro hb|refine zK ?_;intro Jo JU JC AH AJ AG)<;>(try clear fa))
     refine EH ?_;refine ⟨_,YJ 1156 _ 3 2000 0 1 (es:=[Sg 3 ga a,Sg 4 gb b, .agg [I 1,Bw,B false]]) (es' :=[Sg 3 ga a,Sg 4 gb b, .agg [I 1, .rsl 2000 0 0 0,B false]]) (by rfl) (by simp) (by rfl) rfl (P3 (i:=2) rfl), .inr rfl,?_,[(0,0),(1156,1),(3,2),(4,3),(2000,4)],2,⟨by decide,by decide,by decide⟩,?_⟩<;>(have fa:=(And.intro @I1.eq_1 (And.intro @SR.eq_1 (And.intro @Ci.eq_1 @Ci.eq_2)));first|exact AK|(refine zE ?_;try clear fa));refine ⟨_, .rfl',⟨[a,b,⟨1,[],false⟩],_,ga,gb,0,_⟩,⟨fun f' hf=> ?_,by simp,by simp⟩,rfl,rfl⟩;simp at hf;rcases hf with rfl|rfl|rfl
     ·exact ha
     ·exact hb
     ·exact A4 hv
   ·(have fa:= @Af.eq_1;(repeat' first|refine zJ (tg [0]) (BI x' 4 (by omega)) ?_|refine zQ ?_|refine zN ?_;intro K hC hK|refine zM ?_;try clear hK hC K|refine zC ?_ ?_<;>intro hb|refine zK ?_;intro Jo JU JC AH AJ AG)<;>(try clear fa))
    refine EH ?_;refine ⟨_,Y1 2000 0 1 (by rfl), .inr rfl,?_,[(0,0),(1,1),(3,2),(4,3),(2000,4)],2,⟨by decide,by decide,by decide⟩,?_⟩<;>(have fa:=(And.intro @I1.eq_1 (And.intro @SR.eq_1 (And.intro @Ci.eq_1 @Ci.eq_2)));first|exact AK|(refine zE ?_;try clear fa));refine ⟨_, .rfl',⟨[a,b],g,ga,gb,0,_⟩,⟨fun f' hf=> ?_,by simp,by simp⟩,rfl,rfl⟩;exact k3 f' hf
  | a::b::c::r,k2,k3=>exfalso;simp at k2;omega
theorem wS (x:Int) (gf ga gb gc:Nat) (s:AL) (hM:Jn s) (fs:List Fm) (hf:∀f∈fs,Az s f=0∧f.ks.length≤1000) (h1:1≤fs.length) (h3:fs.length≤3):Hn Tryz.prog 85 [.ref 0 0 0 0,AO s, .rsl 1 gf 0 fs.length] ((0, .arr 0 1 [U x])::xK gf ga gb gc fs) (fun _:Int=> .agg [.rsl 5 0 0 0, .rsl 5 0 0 0]) (fun y=>(5, .dead)::(0, .arr 0 1 [U y])::xK gf ga gb gc fs) (fun _=>True):=by
 refine EE (wL (rest:=xK gf ga gb gc fs) (Qa x s hM fs hf h1 h3) ?_ rfl ?_) fun v hl=> ?_
 ·rintro v hl ⟨a,_,rfl,rfl⟩;exact ⟨a.x,_,_,_,_,_,_,_,rfl,rfl⟩
 ·intro c c1 vals hw hb hh st bor hx;refine ⟨hx.1,fun i u v hu hv=> ?_⟩;match i,hu with
  | 0,hu =>
   have k:=hx.2 0 _ v rfl hv;simp at hu;subst hu;cases k with
   | ref _ _ _ _ _ q1 q2 =>
    refine .ref _ _ _ _ _ q1 ?_;rw [hb];exact q2
  | 1,hu =>
   have k:=(hx.2 1 _ v rfl hv).low hw st;simp at hu;subst hu;have e:(AO s).low=AO s:=by simp [AO,AV.low,lowL,Vs]
   rw [←e];exact k
  | 2,hu =>
   have k:=hx.2 2 _ v rfl hv;simp at hu;subst hu;refine nI hw hh (r:=1) (g:=gf) (sz:=3) (es:=J5 2 ga gb gc fs) rfl (wQ 2 ga gb gc h3).symm k (fun hl=>bor 1 gf 3 _ (by decide) rfl hl) (by rw [List.length_map,wQ 2 ga gb gc h3]) fun i e e' he he' => ?_
   obtain ⟨j,g,f,hj,rfl,rfl,hk⟩:=xG (gf:=gf) h3 he he';refine ⟨rfl,fun m u u' y hu hu' hr=> ?_⟩;match m,hu,hu' with
   | 0,hu,hu' =>injection hu with hu;injection hu' with hu';subst hu hu';rw [As hr];exact .v _
   | 1,hu,hu' =>
    injection hu with hu;injection hu' with hu';subst hu hu'
    have hk' :lk ((0, .arr 0 1 [U x])::xK gf ga gb gc fs) .nil j= .arr g 1 (f.ks.map I):=by
     simp only [lk];rw [if_neg (Ne.symm hj)];exact hk
    refine nI hw hh hk' (by simp) hr (fun hl=>bor j g 1 _ hj hk' hl) rfl fun i e e' he he' => ?_
    rw [he] at he';injection he' with he';subst he'
    refine ⟨rfl,fun m u u' y hu hu' hr=> ?_⟩;rw [hu] at hu';injection hu' with hu';subst hu'
    obtain ⟨z,_,rfl⟩:=List.mem_map.1 (List.mem_of_getElem? he);match m,hu with
    | 0,hu=>injection hu with hu;subst hu;rw [As hr];exact .v _
    | n+1,hu=>cases hu
   | 2,hu,hu' =>injection hu with hu;injection hu' with hu';subst hu hu';rw [As hr];exact .v _
   | n+3,hu,_=>cases hu
  | n+3,hu=>simp at hu
 ·rintro ⟨y,rfl,rfl⟩;exact ⟨y,trivial,rfl,rfl⟩
theorem J4 (x:Int) (gf ga gb gc:Nat) (s:AL) (hM:Jn s) (fs:List Fm) (hf:∀f∈fs,Az s f=0∧f.ks.length≤1000) (h1:1≤fs.length) (h3:fs.length≤3):Hn Tryz.prog 85 [.ref 0 0 0 0,AO s, .rsl 1 gf 0 fs.length] [(0, .arr 0 1 [U x]),(1, .arr gf 3 (J5 2 ga gb gc fs)),(2, .arr ga 1 (Sl fs)),(3, .arr gb 1 (W5 fs)),(4, .arr gc 1 (wR fs))] (fun _:Int=> .agg [.rsl 5 0 0 0, .rsl 5 0 0 0]) (fun y=>[(5, .dead),(0, .arr 0 1 [U y]),(1, .arr gf 3 (J5 2 ga gb gc fs)),(2, .arr ga 1 (Sl fs)),(3, .arr gb 1 (W5 fs)),(4, .arr gc 1 (wR fs))]) (fun _=>True):=wS x gf ga gb gc s hM fs hf h1 h3
theorem eW (x:Int) (s:AL) (hv:AP s=0):Hn Tryz.prog 43 [.ref 0 0 0 0,AO s] (Af x) (fun a:xJ=> .rsl 1 a.g 0 a.l.length) (fun a=>[(0, .arr 0 1 [U a.x]),(1, .arr a.g 3 (J5 2 a.ga a.gb a.gc a.l)),(2, .arr a.ga 1 (Sl a.l)),(3, .arr a.gb 1 (W5 a.l)),(4, .arr a.gc 1 (wR a.l))]) (xH s):=wP x s hv
set_option maxHeartbeats 8000000 in
theorem wZ (zs:List Int) (hz:zs.length≤9223372036854775807):Hn Tryz.prog 25 [AN false zs] [] (fun a:AL×xJ=> .tup [.ref 0 0 0 0,AO a.1, .rsl 1 a.2.g 0 a.2.l.length, .agg [.rsl 5 0 0 0, .rsl 5 0 0 0]]) (fun a=>[(0, .arr 0 1 [U a.2.x]),(1, .arr a.2.g 3 (J5 2 a.2.ga a.2.gb a.2.gc a.2.l)),(2, .arr a.2.ga 1 (Sl a.2.l)),(3, .arr a.2.gb 1 (W5 a.2.l)),(4, .arr a.2.gc 1 (wR a.2.l)),(5, .dead)]) (fun a=>Jn a.1∧xH a.1 a.2):=by
 have CN:Hn Tryz.prog 44 [AN false zs] [] (fun _:Int=> .ref 0 0 0 0) (fun x=>Af x) (fun _=>True):=EE (PK zs hz) fun v hl=>by
  rintro ⟨x,rfl,rfl⟩;exact ⟨x,trivial,rfl,rfl⟩
 unfold Hn;refine DX ?_;refine zb Tryz.ntmps25 ?_;let tb:=fV;let lv:=ZZ;(repeat' first|refine zQ ?_|refine zN ?_;intro K hC hK|refine zM ?_;try clear hK hC K|refine zC ?_ ?_<;>intro hb|refine zK ?_;intro Jo JU JC AH AJ AG)
 (have fa:= @Af.eq_1;refine zX (tg []) (CN) ?_;clear AH AJ AG Jo JU JC;(try clear fa));intro xr hxr;(repeat' first|refine zQ ?_|refine zN ?_;intro K hC hK|refine zM ?_;try clear hK hC K|refine zC ?_ ?_<;>intro hb|refine zK ?_;intro Jo JU JC AH AJ AG)
 (have fa:= @Af.eq_1;refine zX (tg [80]) (aQ xr) ?_;clear AH AJ AG Jo JU JC;(try clear fa));intro xr hxr;obtain ⟨s,x1⟩:=xr;dsimp only at hxr ⊢;have hM:=hxr;clear hxr;have b5:=Av (x:=x1) (n:=5) (by omega) (by omega);by_cases h5:BC x1 5=0
 ·have b3:=Av (x:=AR x1) (n:=3) (by omega) (by omega);have CL:=Qk (AR (AR x1)) (1+BC (AR x1) 3) (by omega);(have fa:= @Af.eq_1;(repeat' first|refine zJ (tg [80]) (Dt x1 5 (by omega)) ?_|refine zJ (tg [80]) (EC (AR x1) 1 3 (by omega) (by omega) (by omega)) ?_|refine zQ ?_|refine zN ?_;intro K hC hK|refine zM ?_;try clear hK hC K|refine zC ?_ ?_<;>intro hb|refine zK ?_;intro Jo JU JC AH AJ AG)<;>(try clear fa))
  (have fa:= @Af.eq_1;refine zX (tg [80]) (CL) ?_;clear AH AJ AG Jo JU JC;(try clear fa));intro xr hxr;obtain ⟨s2,x2⟩:=xr;dsimp only at hxr ⊢;have hM2:Jn s2:=⟨hxr.2,hxr.1.fl.2⟩;clear hxr;(repeat' first|refine zQ ?_|refine zN ?_;intro K hC hK|refine zM ?_;try clear hK hC K|refine zC ?_ ?_<;>intro hb|refine zK ?_;intro Jo JU JC AH AJ AG)
  (have fa:= @Af.eq_1;refine zX (tg [80]) (eW x2 s2 hM2.ok) ?_;clear AH AJ AG Jo JU JC;(try clear fa));intro xr hxr;obtain ⟨fs,gf,ga,gb,gc,x3⟩:=xr;obtain ⟨q1,q2,q3⟩:=hxr;dsimp only at q1 q2 q3 ⊢;match fs,q1,q2,q3 with
  | [a],q1,q2,q3 =>
   have HX:=J4 x3 gf ga gb gc s2 hM2 [a] q1 q2 q3;simp only [J5,Sl,W5,wR] at HX ⊢;(have fa:= @Ay;(repeat' first|refine zQ ?_|refine zN ?_;intro K hC hK|refine zM ?_;try clear hK hC K|refine zC ?_ ?_<;>intro hb|refine zK ?_;intro Jo JU JC AH AJ AG)<;>(try clear fa))
   (have fa:= @Af.eq_1;refine r9 (tg [80,321,322,323,324]) (HX) ?_;clear AH AJ AG Jo JU JC;(try clear fa));intro xr hxr;(repeat' first|refine zQ ?_|refine zN ?_;intro K hC hK|refine zM ?_;try clear hK hC K|refine zC ?_ ?_<;>intro hb|refine zK ?_;intro Jo JU JC AH AJ AG)
   refine Aa [(80,0),(321,1),(322,2),(323,3),(324,4),(453,5)] ?_ ?_<;>(first|exact AK|refine zE ?_);exact ⟨_, .rfl',(s2,⟨[a],gf,ga,gb,gc,xr⟩),⟨hM2,q1,q2,q3⟩,rfl,rfl⟩
  | [a,b],q1,q2,q3 =>
   have HX:=J4 x3 gf ga gb gc s2 hM2 [a,b] q1 q2 q3;simp only [J5,Sl,W5,wR] at HX ⊢;(have fa:= @Ay;(repeat' first|refine zQ ?_|refine zN ?_;intro K hC hK|refine zM ?_;try clear hK hC K|refine zC ?_ ?_<;>intro hb|refine zK ?_;intro Jo JU JC AH AJ AG)<;>(try clear fa))
   (have fa:= @Af.eq_1;refine r9 (tg [80,321,322,323,324]) (HX) ?_;clear AH AJ AG Jo JU JC;(try clear fa));intro xr hxr;(repeat' first|refine zQ ?_|refine zN ?_;intro K hC hK|refine zM ?_;try clear hK hC K|refine zC ?_ ?_<;>intro hb|refine zK ?_;intro Jo JU JC AH AJ AG)
   refine Aa [(80,0),(321,1),(322,2),(323,3),(324,4),(453,5)] ?_ ?_<;>(first|exact AK|refine zE ?_);exact ⟨_, .rfl',(s2,⟨[a,b],gf,ga,gb,gc,xr⟩),⟨hM2,q1,q2,q3⟩,rfl,rfl⟩
  | [a,b,d],q1,q2,q3 =>
   have HX:=J4 x3 gf ga gb gc s2 hM2 [a,b,d] q1 q2 q3;simp only [J5,Sl,W5,wR] at HX ⊢;(have fa:= @Ay;(repeat' first|refine zQ ?_|refine zN ?_;intro K hC hK|refine zM ?_;try clear hK hC K|refine zC ?_ ?_<;>intro hb|refine zK ?_;intro Jo JU JC AH AJ AG)<;>(try clear fa))
   (have fa:= @Af.eq_1;refine r9 (tg [80,321,322,323,324]) (HX) ?_;clear AH AJ AG Jo JU JC;(try clear fa));intro xr hxr;(repeat' first|refine zQ ?_|refine zN ?_;intro K hC hK|refine zM ?_;try clear hK hC K|refine zC ?_ ?_<;>intro hb|refine zK ?_;intro Jo JU JC AH AJ AG)
   refine Aa [(80,0),(321,1),(322,2),(323,3),(324,4),(453,5)] ?_ ?_<;>(first|exact AK|refine zE ?_);exact ⟨_, .rfl',(s2,⟨[a,b,d],gf,ga,gb,gc,xr⟩),⟨hM2,q1,q2,q3⟩,rfl,rfl⟩
  | [],_,h,_=>exfalso;simp at h
  | a::b::d::e::r,_,_,h=>exfalso;simp at h
 ·(have fa:= @Af.eq_1;(repeat' first|refine zJ (tg [80]) (Dt x1 5 (by omega)) ?_|refine zQ ?_|refine zN ?_;intro K hC hK|refine zM ?_;try clear hK hC K|refine zC ?_ ?_<;>intro hb|refine zK ?_;intro Jo JU JC AH AJ AG)<;>(try clear fa))
  (have fa:= @Af.eq_1;refine zX (tg [80]) (eW (AR x1) s hM.ok) ?_;clear AH AJ AG Jo JU JC;(try clear fa));intro xr hxr;obtain ⟨fs,gf,ga,gb,gc,x3⟩:=xr;obtain ⟨q1,q2,q3⟩:=hxr;dsimp only at q1 q2 q3 ⊢;match fs,q1,q2,q3 with
  | [a],q1,q2,q3 =>
   have HX:=J4 x3 gf ga gb gc s hM [a] q1 q2 q3;simp only [J5,Sl,W5,wR] at HX ⊢;(have fa:= @Ay;(repeat' first|refine zQ ?_|refine zN ?_;intro K hC hK|refine zM ?_;try clear hK hC K|refine zC ?_ ?_<;>intro hb|refine zK ?_;intro Jo JU JC AH AJ AG)<;>(try clear fa))
   (have fa:= @Af.eq_1;refine r9 (tg [80,241,242,243,244]) (HX) ?_;clear AH AJ AG Jo JU JC;(try clear fa));intro xr hxr;(repeat' first|refine zQ ?_|refine zN ?_;intro K hC hK|refine zM ?_;try clear hK hC K|refine zC ?_ ?_<;>intro hb|refine zK ?_;intro Jo JU JC AH AJ AG)
   refine Aa [(80,0),(241,1),(242,2),(243,3),(244,4),(373,5)] ?_ ?_<;>(first|exact AK|refine zE ?_);exact ⟨_, .rfl',(s,⟨[a],gf,ga,gb,gc,xr⟩),⟨hM,q1,q2,q3⟩,rfl,rfl⟩
  | [a,b],q1,q2,q3 =>
   have HX:=J4 x3 gf ga gb gc s hM [a,b] q1 q2 q3;simp only [J5,Sl,W5,wR] at HX ⊢;(have fa:= @Ay;(repeat' first|refine zQ ?_|refine zN ?_;intro K hC hK|refine zM ?_;try clear hK hC K|refine zC ?_ ?_<;>intro hb|refine zK ?_;intro Jo JU JC AH AJ AG)<;>(try clear fa))
   (have fa:= @Af.eq_1;refine r9 (tg [80,241,242,243,244]) (HX) ?_;clear AH AJ AG Jo JU JC;(try clear fa));intro xr hxr;(repeat' first|refine zQ ?_|refine zN ?_;intro K hC hK|refine zM ?_;try clear hK hC K|refine zC ?_ ?_<;>intro hb|refine zK ?_;intro Jo JU JC AH AJ AG)
   refine Aa [(80,0),(241,1),(242,2),(243,3),(244,4),(373,5)] ?_ ?_<;>(first|exact AK|refine zE ?_);exact ⟨_, .rfl',(s,⟨[a,b],gf,ga,gb,gc,xr⟩),⟨hM,q1,q2,q3⟩,rfl,rfl⟩
  | [a,b,d],q1,q2,q3 =>
   have HX:=J4 x3 gf ga gb gc s hM [a,b,d] q1 q2 q3;simp only [J5,Sl,W5,wR] at HX ⊢;(have fa:= @Ay;(repeat' first|refine zQ ?_|refine zN ?_;intro K hC hK|refine zM ?_;try clear hK hC K|refine zC ?_ ?_<;>intro hb|refine zK ?_;intro Jo JU JC AH AJ AG)<;>(try clear fa))
   (have fa:= @Af.eq_1;refine r9 (tg [80,241,242,243,244]) (HX) ?_;clear AH AJ AG Jo JU JC;(try clear fa));intro xr hxr;(repeat' first|refine zQ ?_|refine zN ?_;intro K hC hK|refine zM ?_;try clear hK hC K|refine zC ?_ ?_<;>intro hb|refine zK ?_;intro Jo JU JC AH AJ AG)
   refine Aa [(80,0),(241,1),(242,2),(243,3),(244,4),(373,5)] ?_ ?_<;>(first|exact AK|refine zE ?_);exact ⟨_, .rfl',(s,⟨[a,b,d],gf,ga,gb,gc,xr⟩),⟨hM,q1,q2,q3⟩,rfl,rfl⟩
  | [],_,h,_=>exfalso;simp at h
  | a::b::d::e::r,_,_,h=>exfalso;simp at h
end Go.Proofs.YthblfhgofopcaaaGreat
