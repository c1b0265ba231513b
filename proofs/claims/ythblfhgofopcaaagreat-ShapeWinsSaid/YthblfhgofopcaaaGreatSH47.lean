/-
  Parts of the proof: Frame, Frame1, FrmS, FrmH, FrmP.
-/
import Derived.Test.YthblfhgofopcaaaGreatRows
import Derived.Test.YthblfhgofopcaaaGreatSH01
import Derived.ProofKit
import Derived.OpenShut
import Derived.ShutString
import Derived.ChangeOld
import Derived.Below
import Derived.Lib.SmallJoins
import Derived.Deep.Slices
import Derived.Test.YthblfhgofopcaaaGreatSH15
import Derived.Test.YthblfhgofopcaaaGreatSH17
import Derived.Test.YthblfhgofopcaaaGreatSH09
import Derived.Deep.Fields
import Derived.ChangeSame
set_option linter.all false
namespace Go.Proofs.YthblfhgofopcaaaGreat
open Go.RowKit Go.ChangeShapes Go.WideShapes Go.ChangeAt
theorem Rb:ownKnob Tryz.prog.godebug=none:=by kernel_rfl
theorem FH:laidOutB Tryz.prog=true:=by kernel_rfl
theorem WM:Tryz.prog.cellsOf 3=1:=by kernel_rfl
theorem OA {w:World} {x:Addr} {l c:Nat} {zs:List Int} (hl:l≤c) (hm:c≤maxLen) (hz:zs.length=c) (hcell:∀i,i<zs.length→w.cell? (x.add i)=some (.int .i64 (zs.getD i 0))) :
  BO w (.slice (some x) l c) (zs.take l):=by
 refine ⟨some x,c,by rw [List.length_take,Nat.min_eq_left (by omega)],by rw [List.length_take];omega,hm,fun i u hu=> ?_⟩;have hi:=(List.getElem?_eq_some_iff.1 hu).1;simp only [Ke,List.length_map,List.length_take] at hi;have hc:=hcell i (by omega);refine ⟨x,rfl,?_,?_⟩
 ·have:=World.block_lt_of_cell? w _ hc;rwa [Iq] at this
 ·rw [hc,←hu];have h2:i<zs.length:=by omega
  simp [List.getD,h2,show i<l by omega]
section
variable {H:Type} {enc:TypeId×Value→H} {W:World} {spare:Nat→Bool} {held:Bool}
theorem DE {t:TypeId} {fuel:Nat} {v:Value} {x:DataW H×List MemPlace} (ht:Tryz.prog.underlying t=some (.slice 3)) (h:DataW.trod enc Tryz.prog W 0 spare held fuel t [v]=some x) (hs:spare=fun _=>true) :
  ∃zs,BO W v zs∧∀z∈zs,(Lit.int .i64 z).wf=true:=by
 subst hs;rcases open_ints ht Tryz.underlying3 WM h with ⟨hcs,_⟩ | ⟨a,l,c,zs,hcs,_,hl,hm,hz,_,hcell,hwz⟩
 ·simp at hcs;subst hcs;exact ⟨[],BO.nil,by simp⟩
 ·simp at hcs;subst hcs;exact ⟨zs.take l,OA hl hm (by simpa using hz) hcell,fun z hz=>hwz z (List.mem_of_mem_take hz)⟩
end
end Go.Proofs.YthblfhgofopcaaaGreat

namespace Go.Proofs.YthblfhgofopcaaaGreat
open Go.Joins Go.ChangeShapes Go.WideShapes Go.RowKit Go.Deep
section
variable {H:Type} {enc:TypeId×Value→H} {P:Program} {w:World} {base:Nat} {spare:Nat→Bool} {held:Bool}
theorem Uo {r:Reach} {b0:Nat} {t:TypeId} {f0 f1 f2 f3 f4 f5 f6 f7 f8:Field} {v:Value} {d:DataW H} {p:List MemPlace} (hs:P.underlying t=some (.struct #[f0,f1,f2,f3,f4,f5,f6,f7,f8])) (hone:oneCellFields P #[f0,f1,f2,f3,f4,f5,f6,f7,f8]=true) (hC:P.cellsOf t=9)
  (hv:Value.okWide P w r b0 t v) (h:DataW.Trod enc P w base spare held t v d p) :
  ∃(v0 v1 v2 v3 v4 v5 v6 v7 v8:Value) (y0 y1 y2 y3 y4 y5 y6 y7 y8:DataW H×List MemPlace) (n:Nat),v= .agg #[v0,v1,v2,v3,v4,v5,v6,v7,v8]∧
   DataW.trod enc P w base spare held n f0.type [v0]=some y0∧DataW.trod enc P w base spare held n f1.type [v1]=some y1∧DataW.trod enc P w base spare held n f2.type [v2]=some y2∧DataW.trod enc P w base spare held n f3.type [v3]=some y3∧DataW.trod enc P w base spare held n f4.type [v4]=some y4∧DataW.trod enc P w base spare held n f5.type [v5]=some y5∧DataW.trod enc P w base spare held n f6.type [v6]=some y6∧DataW.trod enc P w base spare held n f7.type [v7]=some y7∧DataW.trod enc P w base spare held n f8.type [v8]=some y8:=by
 obtain ⟨cs,rfl,hsz⟩:=okWide_struct hs hv;obtain ⟨l⟩:=cs;match l,hsz.trans hC with
 | [c0,c1,c2,c3,c4,c5,c6,c7,c8],_ =>
  obtain ⟨fuel,hf⟩:=h;obtain ⟨xs,n,_,hx,_,hlen,hg⟩:=DataW.trod_struct hs hf;obtain ⟨o0,k0⟩:=hone_of hone 0 f0 rfl;obtain ⟨o1,k1⟩:=hone_of hone 1 f1 rfl;obtain ⟨o2,k2⟩:=hone_of hone 2 f2 rfl;obtain ⟨o3,k3⟩:=hone_of hone 3 f3 rfl;obtain ⟨o4,k4⟩:=hone_of hone 4 f4 rfl;obtain ⟨o5,k5⟩:=hone_of hone 5 f5 rfl;obtain ⟨o6,k6⟩:=hone_of hone 6 f6 rfl;obtain ⟨o7,k7⟩:=hone_of hone 7 f7 rfl;obtain ⟨o8,k8⟩:=hone_of hone 8 f8 rfl;match xs,hlen with
  | [y0,y1,y2,y3,y4,y5,y6,y7,y8],_ =>
   exact ⟨c0,c1,c2,c3,c4,c5,c6,c7,c8,y0,y1,y2,y3,y4,y5,y6,y7,y8,n,rfl,by simpa [Value.cells,o0,k0] using hg 0 f0 rfl,by simpa [Value.cells,o1,k1] using hg 1 f1 rfl,by simpa [Value.cells,o2,k2] using hg 2 f2 rfl,by simpa [Value.cells,o3,k3] using hg 3 f3 rfl,by simpa [Value.cells,o4,k4] using hg 4 f4 rfl,by simpa [Value.cells,o5,k5] using hg 5 f5 rfl,by simpa [Value.cells,o6,k6] using hg 6 f6 rfl,by simpa [Value.cells,o7,k7] using hg 7 f7 rfl,by simpa [Value.cells,o8,k8] using hg 8 f8 rfl⟩
end
def QN (s:AL):Prop:=(∀z∈s.su,(Lit.int .i64 z).wf=true)∧(∀z∈s.re,(Lit.int .i64 z).wf=true)
section
variable {H:Type} {enc:TypeId×Value→H} {W:World} {spare:Nat→Bool} {held:Bool}
set_option maxRecDepth 100000 in
theorem JJ {r:Reach} {b0:Nat} {v:Value} {d:DataW H} {p:List MemPlace} (hv:Value.okWide Tryz.prog W r b0 24 v) (h:DataW.Trod enc Tryz.prog W 0 spare held 24 v d p) (hs:spare=fun _=>true) :
  ∃s:AL,F5 W v s∧QN s:=by
 obtain ⟨v0,v1,v2,v3,v4,v5,v6,v7,v8,y0,y1,y2,y3,y4,y5,y6,y7,y8,n,rfl,h0,h1,h2,h3,h4,h5,h6,h7,h8⟩:=Uo Tryz.underlying24 (by kernel_rfl) (by kernel_rfl) hv h;obtain ⟨zs,i1,w1⟩:=DE Tryz.underlying22 h1 hs;obtain ⟨ks,i8,w8⟩:=DE Tryz.underlying22 h8 hs;obtain ⟨z0,e0,_,_⟩:=DataW.trod_int Tryz.underlying3 h0;obtain rfl:v0= .int .i64 z0:=by simpa using e0
 obtain ⟨z2,e2,_,_⟩:=DataW.trod_int Tryz.underlying3 h2;obtain rfl:v2= .int .i64 z2:=by simpa using e2
 obtain ⟨z3,e3,_,_⟩:=DataW.trod_int Tryz.underlying3 h3;obtain rfl:v3= .int .i64 z3:=by simpa using e3
 obtain ⟨z4,e4,_,_⟩:=DataW.trod_int Tryz.underlying3 h4;obtain rfl:v4= .int .i64 z4:=by simpa using e4
 obtain ⟨z5,e5,_,_⟩:=DataW.trod_int Tryz.underlying3 h5;obtain rfl:v5= .int .i64 z5:=by simpa using e5
 obtain ⟨z6,e6,_,_⟩:=DataW.trod_int Tryz.underlying3 h6;obtain rfl:v6= .int .i64 z6:=by simpa using e6
 obtain ⟨z7,e7,_,_⟩:=DataW.trod_int Tryz.underlying3 h7;obtain rfl:v7= .int .i64 z7:=by simpa using e7
 exact ⟨⟨z0,zs,z2,z3,z4,z5,z6,z7,ks⟩,⟨v1,v8,rfl,i1,i8⟩,w1,w8⟩
end
set_option maxRecDepth 100000
def cI (W:World):Cx:=⟨W,fun _=>0,fun _=>false,fun _=>False,fun _=>True,W.heap.size⟩
theorem jU (W:World):BH (cI W) (lk [] .nil):=⟨(fun r g sz es h=>by cases h),(fun r g sz es h=>by cases h),(fun r r' g g' sz sz' es es' h=>by cases h)⟩
theorem WA (W:World) {b:Nat} (hb:b<W.heap.size):Dx (cI W) (lk [] .nil) false b:=⟨hb,(by rintro ⟨r,g,sz,es,h,_⟩;cases h), .inr (.inr ⟨rfl,trivial⟩)⟩
theorem Io {W:World} {a:Addr} {u:Value} (h:W.cell? a=some u):a=⟨a.block,a.off,none⟩:=by
 obtain ⟨b,o,sp⟩:=a;cases sp with
 | none=>rfl
 | some k =>
  unfold World.cell? at h;split at h<;>simp at h
theorem ER {W:World} {v:Value} {zs:List Int} (h:BO W v zs):AS (cI W) (lk [] .nil) (AN false zs) v:=by
 obtain ⟨A,c,rfl,h1,h2,h3⟩:=h;cases zs with
 | nil=>exact .slE false 1 A c h2
 | cons z l =>
  obtain ⟨ad,rfl,hb,hc⟩:=h3 0 (.int .i64 z) rfl;have e0:ad.add 0=ad:=rfl;rw [e0] at hc;obtain ⟨b,o,rfl⟩:∃b o,ad=⟨b,o,none⟩:=⟨_,_,Io hc⟩;have hl:(z::l).length=((z::l).map I).length:=by simp
  rw [hl];have dest:∀(i:Nat) (e:AV),((z::l).map I)[i]? =some e→∃y,(z::l)[i]? =some y∧e=I y:=fun i e he=>by
   rw [List.getElem?_map] at he;cases hz:(z::l)[i]? with
   | none=>rw [hz] at he;cases he
   | some y =>
    rw [hz] at he;injection he with he
    exact ⟨y,rfl,he.symm⟩
  refine .sl false 1 ((z::l).map I) b o c (fun i _=> .int .i64 ((z::l).getD i 0)) (by rw [List.length_map];exact h1) h2 (WA W hb) (fun i e he=> ?_) (fun i e j x he hx=> ?_) (fun i e j x he hx=> ?_)
  ·obtain ⟨y,hz,rfl⟩:=dest i e he;rfl
  ·obtain ⟨y,hz,rfl⟩:=dest i e he;obtain ⟨ad',e',hb',hc'⟩:=h3 i (.int .i64 y) (by rw [Ke,List.getElem?_map,hz];rfl);injection e' with e'
   subst e';have hj:j=0:=by
    cases j with
    | zero=>rfl
    | succ j=>simp [AV.cs,I] at hx
   subst hj;rw [Addr.add_lit] at hc';show W.cell? ⟨b,o+i*1+0,none⟩=_;rw [List.getD_eq_getElem?_getD,hz];simpa using hc'
  ·obtain ⟨y,hz,rfl⟩:=dest i e he;have hj:j=0:=by
    cases j with
    | zero=>rfl
    | succ j=>simp [AV.cs,I] at hx
   subst hj;simp [AV.cs,I] at hx;subst hx;rw [List.getD_eq_getElem?_getD,hz];exact .v _
theorem No {W:World} {v:Value} {s:AL} (h:F5 W v s):AS (cI W) (lk [] .nil) (AO s) v:=by
 obtain ⟨a,b,rfl,h1,h2⟩:=h;refine .agg _ _ rfl fun i x y hx hy=> ?_
 match i,hx,hy with
 | 0,hx,hy=>simp at hx hy;subst hx hy;exact .v _
 | 1,hx,hy=>simp at hx hy;subst hx hy;exact ER h1
 | 2,hx,hy=>simp at hx hy;subst hx hy;exact .v _
 | 3,hx,hy=>simp at hx hy;subst hx hy;exact .v _
 | 4,hx,hy=>simp at hx hy;subst hx hy;exact .v _
 | 5,hx,hy=>simp at hx hy;subst hx hy;exact .v _
 | 6,hx,hy=>simp at hx hy;subst hx hy;exact .v _
 | 7,hx,hy=>simp at hx hy;subst hx hy;exact .v _
 | 8,hx,hy=>simp at hx hy;subst hx hy;exact ER h2
 | n+9,hx,hy=>simp at hx
theorem T0 {f:Nat} {ys:List AV} (h:AM Tryz.prog f ys (B true)) {W:World} {vals:Array Value} (hr:QX (cI W) (lk [] .nil) ys vals):Calls Tryz.prog f vals W (OF W (.bool true)):=by
 refine (h.2 (cI W) vals rfl (jU W) hr).mono ?_;rintro e w' ⟨v,x,hl,c',rfl,rfl,⟨rfl,rfl⟩,k,_,rv⟩;have:=As rv;subst this;refine ⟨rfl,?_⟩;exact ⟨k.os,k.tape,k.output,k.size,fun b hb=>k.blk b hb (by rintro ⟨r,g,sz,es,h,_⟩;cases h)⟩
end Go.Proofs.YthblfhgofopcaaaGreat

namespace Go.Proofs.YthblfhgofopcaaaGreat
open Go.Joins Go.ChangeShapes Go.WideShapes Go.RowKit Go.Deep Go.ChangeAt
section
variable {H:Type} {enc:TypeId×Value→H} {P:Program} {w:World} {base:Nat} {spare:Nat→Bool} {held:Bool}
theorem GF {t e:TypeId} {fs:Array Field} {fuel:Nat} {cs:List Value} {x:DataW H×List MemPlace} (ht:P.underlying t=some (.slice e)) (he:P.underlying e=some (.struct fs))
  (hone:oneCellFields P fs=true) (hC:P.cellsOf e=fs.size) (h:DataW.trod enc P w base spare held fuel t cs=some x) :
  (cs=[.slice none 0 0]∧x=(.nil,[]))∨
  ∃(a:Addr) (len cap m:Nat),cs=[.slice (some a) len cap]∧len≤cap∧cap≤maxLen∧m=(if spare a.block then cap else len)∧
   ∀i,i<m→∃(n:Nat),∀(j:Nat) (f:Field),fs[j]? =some f→∃(v:Value) (y:DataW H×List MemPlace),w.cell? (a.add (i*fs.size+j))=some v∧DataW.trod enc P w base spare held n f.type [v]=some y:=by
 rcases open_slice ht h with h0 | ⟨a,len,cap,m,n,D,Pl,hcs,hb,hl,hm,hmm,hx,hi⟩
 ·exact .inl h0
 ·refine .inr ⟨a,len,cap,m,hcs,hl,hm,hmm,fun i him=> ?_⟩;obtain ⟨cs',hc,ht'⟩:=hi i him;rw [hC] at hc;obtain ⟨ys,n',hn',hy,hlen,hyl,hf⟩:=DataW.trod_struct he ht';obtain ⟨_,hcl,hat⟩:=World.cells?_some hc;refine ⟨n',fun j f hj=> ?_⟩;obtain ⟨ho,hk⟩:=hone_of hone j f hj;have hjl:j<fs.size:=(Array.getElem?_eq_some_iff.1 hj).1;have hcell:=hat j hjl;have hv:cs'[j]? =some (cs'[j]'(by omega)):=List.getElem?_eq_getElem (by omega);have h1:=hf j f hj;rw [ho,hk] at h1;have hone' :(cs'.drop j).take 1=[cs'[j]'(by omega)]:=by
   rw [List.drop_eq_getElem_cons (by omega)];rfl
  rw [hone'] at h1;have hys:ys[j]? =some (ys[j]'(by omega)):=List.getElem?_eq_getElem (by omega);refine ⟨_,_,?_,h1.trans hys⟩;rw [←Go.Deep.add_add,hcell,hv]
end
theorem L4 {a:Addr} {n j:Nat} {w:World} {u:Value} (h:w.cell? (a.add (n+j))=some u):w.cell? ⟨(a.add n).block,(a.add n).off+j,none⟩=some u:=by
 have e:=Io h;rw [e] at h;obtain ⟨b,o,sp⟩:=a;have e1:(Addr.add ⟨b,o,sp⟩ (n+j)).block=(Addr.add ⟨b,o,sp⟩ n).block:=by simp only [Addr.add];split<;>split<;>rfl
 have e2:(Addr.add ⟨b,o,sp⟩ (n+j)).off=(Addr.add ⟨b,o,sp⟩ n).off+j:=by simp only [Addr.add];split<;>split<;>simp<;>omega
 rw [e1,e2] at h;exact h
section
variable {H:Type} {enc:TypeId×Value→H} {W:World} {spare:Nat→Bool} {held:Bool}
set_option maxRecDepth 100000 in
theorem Nx {t:TypeId} {fuel:Nat} {v:Value} {x:DataW H×List MemPlace} (ht:Tryz.prog.underlying t=some (.slice 72)) (h:DataW.trod enc Tryz.prog W 0 spare held fuel t [v]=some x) (hs:spare=fun _=>true) :
  ∃l,KD W v l:=by
 subst hs;rcases GF ht Tryz.underlying72 (by kernel_rfl) (by kernel_rfl) h with ⟨hcs,_⟩ | ⟨a,len,cap,m,hcs,hl,hm,hmm,hi⟩
 ·simp at hcs;subst hcs;exact ⟨[],KD.nil⟩
 ·simp at hcs;subst hcs;simp at hmm;rw [hmm] at hi;clear hmm;have hg:∀i:Nat,∃g:Gp,i<cap→W.cell? (a.add (i*3))=some (.int .i64 g.wh)∧W.cell? (a.add (i*3+1))=some (.int .i64 g.kd)∧W.cell? (a.add (i*3+2))=some (.bool g.op):=fun i=>by
   by_cases h:i<cap
   ·obtain ⟨n,hn⟩:=hi i h;obtain ⟨v0,y0,c0,t0⟩:=hn 0 _ rfl;obtain ⟨v1,y1,c1,t1⟩:=hn 1 _ rfl;obtain ⟨v2,y2,c2,t2⟩:=hn 2 _ rfl;obtain ⟨z0,e0,_,_⟩:=DataW.trod_int Tryz.underlying3 t0;obtain rfl:v0= .int .i64 z0:=by simpa using e0
    obtain ⟨z1,e1,_,_⟩:=DataW.trod_int Tryz.underlying3 t1;obtain rfl:v1= .int .i64 z1:=by simpa using e1
    obtain ⟨b,e2,_⟩:=DataW.trod_bool Tryz.underlying4 t2;obtain rfl:v2= .bool b:=by simpa using e2
    exact ⟨⟨z0,z1,b⟩,fun _=>⟨c0,c1,c2⟩⟩
   ·exact ⟨⟨0,0,false⟩,fun h' =>absurd h' h⟩
  obtain ⟨f,hf⟩:=Classical.axiomOfChoice hg;refine ⟨(List.range len).map f,some a,cap,by simp,by simpa using hl,hm,fun i hil=> ?_⟩;have hil' :i<len:=by simpa using hil
  obtain ⟨c0,c1,c2⟩:=hf i (by omega);refine ⟨a,rfl,?_,?_⟩
  ·have:=World.block_lt_of_cell? W _ c0;rwa [Iq] at this
  ·simp only [List.getElem_map,List.getElem_range];exact ⟨c0,L4 c1,L4 c2⟩
set_option maxRecDepth 100000 in
theorem KC {r:Reach} {b0:Nat} {v:Value} {d:DataW H} {p:List MemPlace} (hv:Value.okWide Tryz.prog W r b0 31 v) (h:DataW.Trod enc Tryz.prog W 0 spare held 31 v d p) (hs:spare=fun _=>true) :
  ∃x:Hd,SK W v x:=by
 obtain ⟨b,e,y,u,m,rfl,_,_,hy,hu⟩:=Go.Joins.open_agg2 Tryz.underlying31 (by kernel_rfl) (by kernel_rfl) hv h;obtain ⟨zs,i1,_⟩:=DE Tryz.underlying22 hy hs;obtain ⟨l,i2⟩:=Nx Tryz.underlying29 hu hs;exact ⟨⟨zs,l⟩,_,_,rfl,i1,i2⟩
end
theorem NA {W:World} {v:Value} {zs:List Int} (h:BO W v zs):zs.length≤9223372036854775807:=by
 obtain ⟨_,_,_,h1,h2,_⟩:=h;unfold maxLen at h2;omega
def wA (g:Gp):Nat→Value
 | 0=> .int .i64 g.wh
 | 1=> .int .i64 g.kd
 | _=> .bool g.op
theorem Ss {W:World} {v:Value} {l:List Gp} (h:KD W v l):AS (cI W) (lk [] .nil) (AX false l) v:=by
 obtain ⟨A,c,rfl,h1,h2,h3⟩:=h;cases l with
 | nil=>exact .slE false 3 A c h2
 | cons z l =>
  obtain ⟨ad,rfl,hb,hc,_,_⟩:=h3 0 (by simp);have e0:ad.add (0*3)=ad:=by rw [Nat.zero_mul];rfl
  rw [e0] at hc;obtain ⟨b,o,rfl⟩:∃b o,ad=⟨b,o,none⟩:=⟨_,_,Io hc⟩;have hl:(z::l).length=((z::l).map AZ).length:=by simp
  rw [hl];have dest:∀(i:Nat) (e:AV),((z::l).map AZ)[i]? =some e→∃y,∃hi:i<(z::l).length,(z::l)[i]=y∧e=AZ y:=fun i e he=>by
   obtain ⟨hi,he⟩:=List.getElem?_eq_some_iff.1 he;rw [List.getElem_map] at he;exact ⟨_,by simpa using hi,rfl,he.symm⟩
  refine .sl false 3 ((z::l).map AZ) b o c (fun i j=>wA ((z::l).getD i z) j) (by rw [List.length_map];exact h1) h2 (WA W hb) (fun i e he=> ?_) (fun i e j x he hx=> ?_) (fun i e j x he hx=> ?_)
  ·obtain ⟨y,_,_,rfl⟩:=dest i e he;rfl
  ·obtain ⟨y,hi,hy,rfl⟩:=dest i e he;obtain ⟨ad',e',hb',c0,c1,c2⟩:=h3 i hi;injection e' with e'
   subst e';have hg:(z::l).getD i z=y:=by rw [List.getD_eq_getElem?_getD,List.getElem?_eq_getElem hi,←hy];rfl
   rw [hy] at c0 c1 c2;rw [hg];rw [Addr.add_lit] at c0 c1 c2;match j,hx with
   | 0,_=>exact c0
   | 1,_=>exact c1
   | 2,_=>exact c2
   | j+3,hx=>simp [AZ,AV.cs] at hx
  ·obtain ⟨y,hi,hy,rfl⟩:=dest i e he;have hg:(z::l).getD i z=y:=by rw [List.getD_eq_getElem?_getD,List.getElem?_eq_getElem hi,←hy];rfl
   rw [hg];match j,hx with
   | 0,hx=>simp [AZ,AV.cs] at hx;subst hx;exact .v _
   | 1,hx=>simp [AZ,AV.cs] at hx;subst hx;exact .v _
   | 2,hx=>simp [AZ,AV.cs] at hx;subst hx;exact .v _
   | j+3,hx=>simp [AZ,AV.cs] at hx
theorem OO {W:World} {v:Value} {x:Hd} (h:SK W v x):AS (cI W) (lk [] .nil) (Cb false x) v:=by
 obtain ⟨a,b,rfl,h1,h2⟩:=h;refine .agg _ _ rfl fun i x y hx hy=> ?_
 match i,hx,hy with
 | 0,hx,hy=>simp at hx hy;subst hx hy;exact ER h1
 | 1,hx,hy=>simp at hx hy;subst hx hy;exact Ss h2
 | n+2,hx,hy=>simp at hx
def OY (w:World) (v:Value) (l:List Fm):Prop :=
 ∃A c,v= .slice A l.length c∧l.length≤c∧c≤maxLen∧∀i,(h:i<l.length)→∃ad kv,A=some ad∧ad.block<w.heap.size∧w.cell? (ad.add (i*3))=some (.int .i64 l[i].wh)∧w.cell? ⟨(ad.add (i*3)).block,(ad.add (i*3)).off+1,none⟩=some kv∧BO w kv l[i].ks∧w.cell? ⟨(ad.add (i*3)).block,(ad.add (i*3)).off+2,none⟩=some (.bool l[i].ag)
section
variable {H:Type} {enc:TypeId×Value→H} {W:World} {spare:Nat→Bool} {held:Bool}
set_option maxRecDepth 100000 in
theorem JA {t:TypeId} {fuel:Nat} {v:Value} {x:DataW H×List MemPlace} (ht:Tryz.prog.underlying t=some (.slice 26)) (h:DataW.trod enc Tryz.prog W 0 spare held fuel t [v]=some x) (hs:spare=fun _=>true) :
  ∃l,OY W v l:=by
 subst hs;rcases GF ht Tryz.underlying26 (by kernel_rfl) (by kernel_rfl) h with ⟨hcs,_⟩ | ⟨a,len,cap,m,hcs,hl,hm,hmm,hi⟩
 ·simp at hcs;subst hcs;exact ⟨[],none,0,rfl,Nat.le_refl _,Nat.zero_le _,fun i h=>absurd h (by simp)⟩
 ·simp at hcs;subst hcs;simp at hmm;rw [hmm] at hi;clear hmm;have hg:∀i:Nat,∃g:Fm×Value,i<cap→W.cell? (a.add (i*3))=some (.int .i64 g.1.wh)∧W.cell? (a.add (i*3+1))=some g.2∧BO W g.2 g.1.ks∧W.cell? (a.add (i*3+2))=some (.bool g.1.ag):=fun i=>by
   by_cases h:i<cap
   ·obtain ⟨n,hn⟩:=hi i h;obtain ⟨v0,y0,c0,t0⟩:=hn 0 _ rfl;obtain ⟨v1,y1,c1,t1⟩:=hn 1 _ rfl;obtain ⟨v2,y2,c2,t2⟩:=hn 2 _ rfl;obtain ⟨z0,e0,_,_⟩:=DataW.trod_int Tryz.underlying3 t0;obtain rfl:v0= .int .i64 z0:=by simpa using e0
    obtain ⟨zs,i1,_⟩:=DE Tryz.underlying22 t1 rfl;obtain ⟨b,e2,_⟩:=DataW.trod_bool Tryz.underlying4 t2;obtain rfl:v2= .bool b:=by simpa using e2
    exact ⟨⟨⟨z0,zs,b⟩,v1⟩,fun _=>⟨c0,c1,i1,c2⟩⟩
   ·exact ⟨⟨⟨0,[],false⟩, .slice none 0 0⟩,fun h' =>absurd h' h⟩
  obtain ⟨f,hf⟩:=Classical.axiomOfChoice hg;refine ⟨(List.range len).map fun i=>(f i).1,some a,cap,by simp,by simpa using hl,hm,fun i hil=> ?_⟩;have hil' :i<len:=by simpa using hil
  obtain ⟨c0,c1,c2,c3⟩:=hf i (by omega);refine ⟨a,(f i).2,rfl,?_,?_⟩
  ·have:=World.block_lt_of_cell? W _ c0;rwa [Iq] at this
  ·simp only [List.getElem_map,List.getElem_range];exact ⟨c0,L4 c1,c2,L4 c3⟩
end
def vX (f:Fm) (kv:Value):Nat→Value
 | 0=> .int .i64 f.wh
 | 1=>kv
 | _=> .bool f.ag
theorem Ns {W:World} {v:Value} {l:List Fm} (h:OY W v l):AS (cI W) (lk [] .nil) (Bh false l) v:=by
 obtain ⟨A,c,rfl,h1,h2,h3⟩:=h;cases l with
 | nil=>exact .slE false 3 A c h2
 | cons z l =>
  obtain ⟨ad,_,rfl,hb,hc,_⟩:=h3 0 (by simp);have e0:ad.add (0*3)=ad:=by rw [Nat.zero_mul];rfl
  rw [e0] at hc;obtain ⟨b,o,rfl⟩:∃b o,ad=⟨b,o,none⟩:=⟨_,_,Io hc⟩;have hk:∀i:Nat,∃kv:Value,(hi:i<(z::l).length)→W.cell? ⟨b,o+i*3,none⟩=some (.int .i64 (z::l)[i].wh)∧W.cell? ⟨b,o+i*3+1,none⟩=some kv∧BO W kv (z::l)[i].ks∧W.cell? ⟨b,o+i*3+2,none⟩=some (.bool (z::l)[i].ag):=fun i=>by
   by_cases hi:i<(z::l).length
   ·obtain ⟨ad',kv,e',hb',c0,c1,c2,c3⟩:=h3 i hi;injection e' with e'
    subst e';rw [Addr.add_lit] at c0 c1 c3;exact ⟨kv,fun _=>⟨c0,c1,c2,c3⟩⟩
   ·exact ⟨.bool false,fun h=>absurd h hi⟩
  obtain ⟨kf,hkf⟩:=Classical.axiomOfChoice hk;have hl:(z::l).length=((z::l).map (DN false)).length:=by simp
  rw [hl];have dest:∀(i:Nat) (e:AV),((z::l).map (DN false))[i]? =some e→∃hi:i<(z::l).length,e=DN false (z::l)[i]∧(z::l).getD i z=(z::l)[i]:=fun i e he=>by
   obtain ⟨hi,he⟩:=List.getElem?_eq_some_iff.1 he;rw [List.getElem_map] at he;have hi' :i<(z::l).length:=by simpa using hi
   exact ⟨hi',he.symm,by rw [List.getD_eq_getElem?_getD,List.getElem?_eq_getElem hi'];rfl⟩
  refine .sl false 3 ((z::l).map (DN false)) b o c (fun i j=>vX ((z::l).getD i z) (kf i) j) (by rw [List.length_map];exact h1) h2 (WA W hb) (fun i e he=> ?_) (fun i e j x he hx=> ?_) (fun i e j x he hx=> ?_)
  ·obtain ⟨_,rfl,_⟩:=dest i e he;rfl
  ·obtain ⟨hi,rfl,hg⟩:=dest i e he;obtain ⟨c0,c1,c2,c3⟩:=hkf i hi;rw [hg];match j,hx with
   | 0,_=>exact c0
   | 1,_=>exact c1
   | 2,_=>exact c3
   | j+3,hx=>simp [DN,AV.cs] at hx
  ·obtain ⟨hi,rfl,hg⟩:=dest i e he;obtain ⟨c0,c1,c2,c3⟩:=hkf i hi;rw [hg];match j,hx with
   | 0,hx=>simp [DN,AV.cs] at hx;subst hx;exact .v _
   | 1,hx=>simp [DN,AV.cs] at hx;subst hx;exact ER c2
   | 2,hx=>simp [DN,AV.cs] at hx;subst hx;exact .v _
   | j+3,hx=>simp [DN,AV.cs] at hx
end Go.Proofs.YthblfhgofopcaaaGreat
