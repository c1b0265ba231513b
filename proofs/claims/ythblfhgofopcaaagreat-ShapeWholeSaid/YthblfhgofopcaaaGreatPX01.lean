/-
  Parts of the proof: FrameQ, Frame1Q, FrmSQ, FrmHQ, Ext, KitW, KitH, FmL, KitS, Lw, RdP, MoreL, RareL, ApL, TakeL, TakeW, InK, Into, IsP, UpL, WholeW, KitO, WWhole.
-/
import Derived.Test.YthblfhgofopcaaaGreatRows
import Derived.Test.YthblfhgofopcaaaGreatSH01
import Derived.ProofKit
import Derived.OpenShut
import Derived.ShutString
import Derived.ChangeOld
import Derived.Below
import Derived.Lib.SmallJoins
import Derived.Deep.Slices
import Derived.Test.YthblfhgofopcaaaGreatSH15
import Derived.Test.YthblfhgofopcaaaGreatSH17
import Derived.Test.YthblfhgofopcaaaGreatSH09
import Derived.Deep.Fields
import Derived.ChangeSame
import Derived.Test.YthblfhgofopcaaaGreatSH08
import Derived.Test.YthblfhgofopcaaaGreatSH13
import Derived.Test.YthblfhgofopcaaaGreatSH14
import Derived.Test.YthblfhgofopcaaaGreatSH40
import Derived.Test.YthblfhgofopcaaaGreatSH43
import Derived.Test.YthblfhgofopcaaaGreatSH45
import Derived.Test.YthblfhgofopcaaaGreatSH41
import Derived.Test.YthblfhgofopcaaaGreatSH42
import Derived.Test.YthblfhgofopcaaaGreatSH18
set_option linter.all false
namespace Go.Proofs.YthblfhgofopcaaaGreat
open Go.RowKit Go.ChangeShapes Go.WideShapes Go.ChangeAt
theorem Rb:ownKnob Tryz.prog.godebug=none:=by kernel_rfl
theorem FH:laidOutB Tryz.prog=true:=by kernel_rfl
theorem WM:Tryz.prog.cellsOf 3=1:=by kernel_rfl
theorem OA {w:World} {x:Addr} {l c:Nat} {zs:List Int} (hl:l≤c) (hm:c≤maxLen) (hz:zs.length=c) (hcell:∀i,i<zs.length→w.cell? (x.add i)=some (.int .i64 (zs.getD i 0))) :
  BO w (.slice (some x) l c) (zs.take l):=by
 refine ⟨some x,c,by rw [List.length_take,Nat.min_eq_left (by omega)],by rw [List.length_take];omega,hm,fun i u hu=> ?_⟩;have hi:=(List.getElem?_eq_some_iff.1 hu).1;simp only [Ke,List.length_map,List.length_take] at hi;have hc:=hcell i (by omega);refine ⟨x,rfl,?_,?_⟩
 ·have:=World.block_lt_of_cell? w _ hc;rwa [Iq] at this
 ·rw [hc,←hu];have h2:i<zs.length:=by omega
  simp [List.getD,h2,show i<l by omega]
section
variable {H:Type} {enc:TypeId×Value→H} {W:World} {spare:Nat→Bool} {held:Bool}
theorem DE {t:TypeId} {fuel:Nat} {v:Value} {x:DataW H×List MemPlace} (ht:Tryz.prog.underlying t=some (.slice 3)) (h:DataW.trod enc Tryz.prog W 0 spare held fuel t [v]=some x) (hs:spare=fun _=>true) :
  ∃zs,BO W v zs∧∀z∈zs,(Lit.int .i64 z).wf=true:=by
 subst hs;rcases open_ints ht Tryz.underlying3 WM h with ⟨hcs,_⟩|⟨a,l,c,zs,hcs,_,hl,hm,hz,_,hcell,hwz⟩
 ·simp at hcs;subst hcs;exact ⟨[],BO.nil,by simp⟩
 ·simp at hcs;subst hcs;exact ⟨zs.take l,OA hl hm (by simpa using hz) hcell,fun z hz=>hwz z (List.mem_of_mem_take hz)⟩
end
end Go.Proofs.YthblfhgofopcaaaGreat

namespace Go.Proofs.YthblfhgofopcaaaGreat
open Go.Joins Go.ChangeShapes Go.WideShapes Go.RowKit Go.Deep
set_option maxRecDepth 100000
def cI (W:World):Cx:=⟨W,fun _=>0,fun _=>false,fun _=>False,fun _=>True,W.heap.size⟩
theorem jU (W:World):BH (cI W) (lk [] .nil):=⟨(fun r g sz es h=>by cases h),(fun r g sz es h=>by cases h),(fun r r' g g' sz sz' es es' h=>by cases h)⟩
theorem WA (W:World) {b:Nat} (hb:b<W.heap.size):Dx (cI W) (lk [] .nil) false b:=⟨hb,(by rintro ⟨r,g,sz,es,h,_⟩;cases h), .inr (.inr ⟨rfl,trivial⟩)⟩
theorem Io {W:World} {a:Addr} {u:Value} (h:W.cell? a=some u):a=⟨a.block,a.off,none⟩:=by
 obtain ⟨b,o,sp⟩:=a;cases sp with
|none=>rfl
|some k =>
  unfold World.cell? at h;split at h<;>simp at h
theorem ER {W:World} {v:Value} {zs:List Int} (h:BO W v zs):AS (cI W) (lk [] .nil) (AN false zs) v:=by
 obtain ⟨A,c,rfl,h1,h2,h3⟩:=h;cases zs with
|nil=>exact .slE false 1 A c h2
|cons z l =>
  obtain ⟨ad,rfl,hb,hc⟩:=h3 0 (.int .i64 z) rfl;have e0:ad.add 0=ad:=rfl;rw [e0] at hc;obtain ⟨b,o,rfl⟩:∃b o,ad=⟨b,o,none⟩:=⟨_,_,Io hc⟩;have hl:(z::l).length=((z::l).map I).length:=by simp
  rw [hl];have dest:∀(i:Nat) (e:AV),((z::l).map I)[i]? =some e→∃y,(z::l)[i]? =some y∧e=I y:=fun i e he=>by
   rw [List.getElem?_map] at he;cases hz:(z::l)[i]? with
  |none=>rw [hz] at he;cases he
  |some y =>
    rw [hz] at he;injection he with he
    exact ⟨y,rfl,he.symm⟩
  refine .sl false 1 ((z::l).map I) b o c (fun i _=> .int .i64 ((z::l).getD i 0)) (by rw [List.length_map];exact h1) h2 (WA W hb) (fun i e he=> ?_) (fun i e j x he hx=> ?_) (fun i e j x he hx=> ?_)
  ·obtain ⟨y,hz,rfl⟩:=dest i e he;rfl
  ·obtain ⟨y,hz,rfl⟩:=dest i e he;obtain ⟨ad',e',hb',hc'⟩:=h3 i (.int .i64 y) (by rw [Ke,List.getElem?_map,hz];rfl);injection e' with e'
   subst e';have hj:j=0:=by
    cases j with
   |zero=>rfl
   |succ j=>simp [AV.cs,I] at hx
   subst hj;rw [Addr.add_lit] at hc';show W.cell? ⟨b,o+i*1+0,none⟩=_;rw [List.getD_eq_getElem?_getD,hz];simpa using hc'
  ·obtain ⟨y,hz,rfl⟩:=dest i e he;have hj:j=0:=by
    cases j with
   |zero=>rfl
   |succ j=>simp [AV.cs,I] at hx
   subst hj;simp [AV.cs,I] at hx;subst hx;rw [List.getD_eq_getElem?_getD,hz];exact .v _
theorem T0 {f:Nat} {ys:List AV} (h:AM Tryz.prog f ys (B true)) {W:World} {vals:Array Value} (hr:QX (cI W) (lk [] .nil) ys vals):Calls Tryz.prog f vals W (OF W (.bool true)):=by
 refine (h.2 (cI W) vals rfl (jU W) hr).mono ?_;rintro e w' ⟨v,x,hl,c',rfl,rfl,⟨rfl,rfl⟩,k,_,rv⟩;have:=As rv;subst this;refine ⟨rfl,?_⟩;exact ⟨k.os,k.tape,k.output,k.size,fun b hb=>k.blk b hb (by rintro ⟨r,g,sz,es,h,_⟩;cases h)⟩
end Go.Proofs.YthblfhgofopcaaaGreat

namespace Go.Proofs.YthblfhgofopcaaaGreat
open Go.Joins Go.ChangeShapes Go.WideShapes Go.RowKit Go.Deep Go.ChangeAt
theorem NA {W:World} {v:Value} {zs:List Int} (h:BO W v zs):zs.length≤9223372036854775807:=by
 obtain ⟨_,_,_,h1,h2,_⟩:=h;unfold maxLen at h2;omega
end Go.Proofs.YthblfhgofopcaaaGreat

namespace Go.Proofs.YthblfhgofopcaaaGreat
open Go.RowKit
set_option maxRecDepth 100000
section
variable {inv:Nat→Option Nat} {f:Bool}
@[go_sem] theorem xV (m:Fm):(DN f m).low=DN false m:=by simp only [DN,AV.low,lowL,Vs]
@[go_sem] theorem yH (l:List Fm):lowL (l.map (DN f))=l.map (DN false):=M0 xV l
@[go_sem] theorem yK (l:List Rg):nobL inv (l.map (Hi f))=true:=Mv (fun m=>by simp only [Hi,AV.nob,nobL,Rl];rfl) l
@[go_sem] theorem yP (m:Rg):(Hi f m).nob inv=true:=by simp only [Hi,AV.nob,nobL,Rl];rfl
@[go_sem] theorem xJ (m:Rg):(Hi true m).allT=true:=by simp only [Hi,AV.allT,allTL,iU];rfl
end
def xT:List (Nat×List Nat):=[(0,[0,1]),(1,[1,6,7,8]),(2,[1,6,7,8,21]),(3,[1,6,7,8]),(4,[6,7,8,9]),(5,[6,7,8,9,10]),(6,[6,7,8,9,10,59]),(7,[4]),(8,[6,7,8,9,10,11]),(9,[6,7,8,9,10,11,63]),(10,[6,7,8,9,10,11]),(11,[6,7,8,9,10,11,121]),(12,[4]),(13,[4])]
def x4:List (Nat×List Nat):=[(0,[0,1]),(1,[0,1]),(2,[0,1,9]),(3,[0]),(4,[4])]
def xY:List (Nat×List Nat):=[(0,[1,3,5,7,9]),(1,[10])]
def xZ:List (Nat×List Nat):=[(0,[2,4,5,7]),(1,[2,4,5,7,9]),(2,[2,4,5,7,9,45]),(3,[8]),(4,[2,4,5,7,9,10]),(5,[2,4,5,7,9,10,11]),(6,[2,4,5,7,9,10,11,55]),(7,[2,4,5,7,9,10,11]),(8,[2,4,5,7,9,10,11,12]),(9,[2,4,5,7,9,10,11,12,94]),(10,[8]),(11,[2,4,5,7,9,10,11,12,13]),(12,[2,4,5,7,9,10,11,12,13,98]),(13,[2,4,5,7,9,10,11,12,13]),(14,[2,4,5,7,9,10,11,12,13,114]),(15,[8]),(16,[2,4,5,7,9,10,11,12,13]),(17,[8])]
def o7:List (Nat×List Nat):=[(0,[2,3]),(1,[2,3,10]),(2,[4]),(3,[2,3,5]),(4,[2,3,5,22]),(5,[4]),(6,[4])]
def xN:List (Nat×List Nat):=[(0,[0,1]),(1,[4])]
def xQ:List (Nat×List Nat):=[(0,[1,2]),(1,[3])]
def xC:List (Nat×List Nat):=[(0,[0,1]),(1,[0,1,7,8]),(2,[0,1,7,8,9]),(3,[0,1,5,7,8]),(4,[0,1,5,7,8,16]),(5,[4]),(6,[0,1,7,8]),(7,[4])]
@[go_sem] theorem yS:Tryz.f13.results.toList=[.tmp 4]:=rfl
@[go_sem] theorem yU:Tryz.f26.results.toList=[.tmp 4]:=rfl
@[go_sem] theorem yQ:Tryz.f42.results.toList=[.tmp 4]:=rfl
@[go_sem] theorem yV:Tryz.f51.results.toList=[.tmp 10]:=rfl
@[go_sem] theorem yT:Tryz.f59.results.toList=[.tmp 8]:=rfl
@[go_sem] theorem yR:Tryz.f60.results.toList=[.tmp 4]:=rfl
@[go_sem] theorem yN:Tryz.f103.results.toList=[.tmp 4]:=rfl
@[go_sem] theorem yL:Tryz.f115.results.toList=[.tmp 4]:=rfl
@[go_sem] theorem yO:Tryz.f116.results.toList=[.tmp 3]:=rfl
@[go_sem] theorem yM:Tryz.f155.results.toList=[.tmp 4]:=rfl
def yB:List (Nat×List Nat×List Nat):=[(6,[0,1,2,3,4,5,6,7,8,9,10,11,12,13,16,17,18,14,15,19,20],[0,1,3,7,15,31,15,127,255,511,1023,2047,4095,4095,16383,32767,4095,69631,200703,524287,1048575]),(11,[0,1,2,3,4,5,6,7,8,9,10,11,12,13,14,15,16,17,18,19,20,21,22,23,24,25,26,27,28,29,30,31,32,33,34,35,36,37,38,39,40,41,42,43,44,45,46,47,48,49,50,51,52,53,54,55],[0,0,3,7,15,31,63,127,127,511,1023,2047,127,4223,16383,32767,65535,131071,131071,131071,131071,131071,3276799,7471103,16777215,33554431,67108863,134217727,268435455,536870911,1073741823,2147483647,2147483647,8589934591,17179869183,2147483647,2147483647,70866960383,242665652223,517543559167,1099511627775,2199023255551,4398046511103,8796093022207,17592186044415,35184372088831,35184372088831,35184372088831,35184372088831,35184372088831,35184372088831,1724034232352767,3975834046038015,9007199254740991,18014398509481983,36028797018963967])]
def x7:List (Nat×List Nat×List Nat):=[]
def x8:List (Nat×List Nat×List Nat):=[]
def x9:List (Nat×List Nat×List Nat):=[(2,[0,1,2,3,4,5,6,7,8,9,10,11,12,13,14,15,16,17,18,19,20,21,22,23,24,25,26,27,28],[0,1,3,0,15,31,63,127,63,511,1023,2047,4095,8191,4095,20479,53247,131071,262143,524287,1048575,2097151,1048575,8388607,1048575,17825791,67108863,134217727,268435455]),(8,[0,1,2,3,4,5,6,7],[0,0,2,0,14,30,63,127]),(9,[0,1,2,3,4,5,6,7,8,9,10,11,12,13,14,15,16,17,18,19,20,21,22,23,24,25,26,27,28,29],[0,1,0,7,15,31,63,127,255,511,1023,2047,4095,4095,16383,32767,65535,131071,65535,524287,1048575,65535,2162687,65535,8454143,31522815,65077247,134217727,268435455,536870911]),(17,[0,1,2,3,4,5,6,7,8,9,10,11,13,12,14,15,16],[0,0,2,7,15,31,31,95,31,287,991,2015,4095,31,16383,32767,65535])]
def wR:List (Nat×List Nat×List Nat):=[]
def xX:List (Nat×List Nat×List Nat):=[]
def xW:List (Nat×List Nat×List Nat):=[]
def xU:List (Nat×List Nat×List Nat):=[]
set_option maxHeartbeats 2000000
theorem Oh (x:Int) (h:Hd) (hl:h.bag.length≤1000) (hm:h.me.length≤1000) (hz:∀z∈h.bag,0≤z∧z≤1000) (hs:1≤h.bag.sum):Hn Tryz.prog 32 [.ref 0 0 0 0,Cb false h] (Af x) (fun _:Nat×Int=> .agg [.rsl 1 1 0 h.bag.length,AX true h.me]) (fun a=>[(0, .arr 0 1 [U a.2]),(1, .arr 1 1 ((h.bag.set a.1 (h.bag.getD a.1 0-1)).map I))]) (fun a=>a.1<h.bag.length∧1≤h.bag.getD a.1 0):=by
 have CC:=Ej h (by omega) (by omega);have CT:=FE h.bag (by omega);have hw:JM h.bag=h.bag.sum:=G6 (m:=1000) (fun z hz' =>by have:=hz z hz';omega) (by omega) (by omega);rw [hw] at CT;have hsb:h.bag.sum≤1000000:=by
  have:=NC (c:=1000) (fun z hz' =>(hz z hz').2);have:(h.bag.length:Int)*1000≤1000*1000:=by omega
  omega
 have hst:=fun (i:Nat)=>GG h.bag i (fun z hz' =>(hz z hz').1)
 obtain ⟨S,hS⟩:∃S,h.bag.sum=S:=⟨_,rfl⟩;rw [hS] at CT hs hsb hst;have b1:=Av (x:=x) (n:=S) (by omega) (by omega);have CB:=BI x S (by omega);unfold Hn Af;refine DX ?_;refine FL 1 Tryz.ntmps32 ?_;let tb:=eS;let lv:=Zu;(have fa:= @Af.eq_1;(repeat' first|refine zO CC ?_|refine zS CT ?_|refine zJ (tg [0]) CB ?_|refine zQ ?_|refine zN ?_;intro K hC hK|refine zM ?_;try clear hK hC K|refine zC ?_ ?_<;>intro hb|refine zK ?_;intro Jo JU JC AH AJ AG)<;>(try clear fa))
 obtain ⟨x1,hx1⟩:∃x1,AR x=x1:=⟨_,rfl⟩;obtain ⟨a0,ha0⟩:∃a0,BC x S=a0:=⟨_,rfl⟩;rw [ha0] at b1;rw [hx1,ha0];refine At (α:=Nat×Int) (fun a=>[(4, .ref 1 0 0 0),(5, .ref 2 0 0 0),(6,I a.2),(7,I a.1)]) (fun a=>[(0, .arr 0 1 [U x1]),(1, .arr 0 2 [.agg [Bw,Bw]]),(2, .arr 0 2 [.agg [.rsl 3 1 0 h.bag.length, .rsl 4 1 0 h.me.length]]),(3, .arr 1 1 (h.bag.map I)),(4, .arr 1 3 (h.me.map AZ))])
  (fun a=>h.bag.length-a.1) (fun a=>a.1≤h.bag.length∧a.2=a0-(h.bag.take a.1).sum∧0≤a.2) [(0,0),(80,1),(128,2),(112,3),(113,4)] [(0,0),(1,1),(2,2),(3,3),(4,4)] 0 [4,5,6,7] 900 zg zg (0,a0) ⟨by dsimp only;omega,by simp,by dsimp only;omega⟩ (by exact CZ) ?_
 rintro ⟨k,a⟩ ⟨k1,k2,k3⟩ J hcJ hJ;dsimp only at k1 k2 k3 hJ ⊢;by_cases hk:k<h.bag.length
 ·obtain ⟨z,hzz⟩:∃z,h.bag[k]=z:=⟨_,rfl⟩;have hzb:=hz z (by rw [←hzz];exact List.getElem_mem hk);have hg:h.bag.getD k 0=z:=by simp [hk,hzz]
  have hts:=D9 h.bag hk;rw [hzz] at hts;have hs0:0≤(h.bag.take k).sum:=GJ fun y hy=>(hz y (List.mem_of_mem_take hy)).1
  by_cases ha:a<z
  ·have hse:(h.bag.map I).set k (I (z-1))=(h.bag.set k (z-1)).map I:=(List.map_set ..).symm;(have fa:=(And.intro hzz hse);(repeat' first|refine zQ ?_|refine zN ?_;intro K hC hK|refine zM ?_;try clear hK hC K|refine zC ?_ ?_<;>intro hb|refine zK ?_;intro Jo JU JC AH AJ AG)<;>(try clear fa))
   refine Aa [(0,0),(3,1)] ?_ ?_<;>(first|exact AK|refine zE ?_);refine ⟨.agg [.rsl 1 1 0 h.bag.length,AX true h.me],?_,(k,x1),⟨hk,by dsimp only;omega⟩,rfl,?_⟩
   ·refine An.agg ?_;(repeat first|exact EO.nil|refine GQ ?_)
   ·rw [hg]
  ·(have fa:=hzz;(repeat' first|refine zQ ?_|refine zN ?_;intro K hC hK|refine zM ?_;try clear hK hC K|refine zC ?_ ?_<;>intro hb|refine zK ?_;intro Jo JU JC AH AJ AG)<;>(try clear fa))
   refine hJ _ (k+1,a-z) (by dsimp only;omega) ⟨by dsimp only;omega,by dsimp only;omega,by dsimp only;omega⟩ (by exact CZ)
 ·have hT:h.bag.take k=h.bag:=List.take_of_length_le (by omega);rw [hT,hS] at k2;omega
structure HR where
 ms:List Gp
 X:List Int
 g:Nat
 x:Int
structure rW (s:AL) (P:Nat) (a:HR):Prop where
 xl:a.X.length=P
 full:Am s ⟨a.X,a.ms⟩=true
theorem I8 {s:AL} (hv:AP s=0):Az s ⟨1,[],false⟩=0:=by
 unfold Az;rw [if_neg (by simp [hv]),if_neg (by simp),if_neg (by unfold Cs;simp)];rfl
@[go_sem] theorem uY (f:Bool) (l:List Fm):(∀u∈l.map (DN f),∀v∈u.cs,v.one=true)=True:=L7 (fun x v hv=>by simp [DN,AV.cs] at hv;rcases hv with rfl|rfl|rfl<;>rfl) l
theorem XM (l:List Fm) (m:Nat) (hm:m≤l.length) (i:Nat) (e e' :AV) (h:((l.take m).map (DN false)++[.agg [.v (.int .i64 1), .v (.slice none 0 0), .v (.bool false)]]++(l.drop m).map (DN false))[i]? =some e) (h' :((l.take m++⟨1,[],false⟩::l.drop m).map (DN false))[i]? =some e'):EO e.cs e'.cs:=by
 have refl:∀l:List AV,EO l l:=fun l=>by
  induction l with
 |nil=>exact .nil
 |cons x l ih=>exact .cons .rfl' ih
 rw [List.append_assoc] at h;rw [List.map_append,List.map_cons] at h';by_cases hi:i<m
 ·rw [List.getElem?_append_left (by simp;omega)] at h h';rw [h] at h';injection h' with h';subst h';exact refl _
 ·rw [List.getElem?_append_right (by simp;omega)] at h h';generalize i-((l.take m).map (DN false)).length=j at h h';cases j with
 |zero =>
   simp at h h';subst h h';exact .cons .rfl' (.cons (An.nil _ _) (.cons .rfl' .nil))
 |succ j =>
   simp at h h';obtain ⟨a,h1,h2⟩:=h;obtain ⟨b,h3,h4⟩:=h';rw [h1] at h3;injection h3 with h3;subst h3;rw [h2] at h4;subst h4;exact refl _
theorem PK (zs:List Int) (hz:zs.length≤9223372036854775807):Bb Tryz.prog 44 [AN false zs] [] (fun v hl=>∃x,v= .ref 0 0 0 0∧hl=Af x):=by
 refine zb Tryz.ntmps44 ?_;let tb:=dY;let lv:=ZT;(repeat' first|refine zQ ?_|refine zN ?_;intro K hC hK|refine zM ?_;try clear hK hC K|refine zC ?_ ?_<;>intro hb|refine zK ?_;intro Jo JU JC AH AJ AG)
 refine A8 (kE (r:=32) (es' :=[U 2685821657736338717]) (by rfl) (by rfl)) (α:=Nat×Int) (fun x=>[(0,AN false zs),(3, .ref 0 0 0 0),(4,I x.1)]) (fun x=>[(0, .arr 0 1 [U x.2])]) (fun x=>zs.length-x.1) (fun x=>x.1≤zs.length) [(32,0)] [(0,0)] 0 [0,3,4] 900 zf zf (0,2685821657736338717) (Nat.zero_le _) (by exact CZ) ?_;rintro ⟨k,x⟩ hk J hcJ hJ;dsimp only at hk hJ ⊢;by_cases h:k<zs.length
 ·(repeat' first|refine zQ ?_|refine zN ?_;intro K hC hK|refine zM ?_;try clear hK hC K|refine zC ?_ ?_<;>intro hb|refine zK ?_;intro Jo JU JC AH AJ AG)
  refine hJ _ (k+1,_) (by dsimp only;omega) (by dsimp only;omega) (by exact CZ)
 ·(repeat' first|refine zQ ?_|refine zN ?_;intro K hC hK|refine zM ?_;try clear hK hC K|refine zC ?_ ?_<;>intro hb|refine zK ?_;intro Jo JU JC AH AJ AG)
  refine Aa [(0,0)] ?_ ?_<;>(first|exact AK|refine zE ?_);exact ⟨x,rfl⟩
structure SR where
 x:Int
 s:AL
 fs:List Fm
 ms:List Gp
 X:List Int
 g:Nat
structure jK (a:SR):Prop where
 made:Jn a.s
 fo:∀f∈a.fs,Az a.s f=0∧f.ks.length≤1000
 f1:1≤a.fs.length
 f3:a.fs.length≤3
 xl:(a.X.length:Int)=AQ a.s
 full:Am a.s ⟨a.X,a.ms⟩=true
theorem Lb (a b:List Int) (ha:a.length≤1000000):AM Tryz.prog 35 [AN false a,AN false b] (B (decide (a=b))):=by
 by_cases hl:a.length=b.length
 ·refine zb Tryz.ntmps35 ?_;let tb:=XH;let lv:=Tw;(repeat' first|refine zQ ?_|refine zN ?_;intro K hC hK|refine zM ?_;try clear hK hC K|refine zC ?_ ?_<;>intro hb|refine zK ?_;intro Jo JU JC AH AJ AG)
  refine Ab a.length (fun k σ=>(∀i,(h1:i<a.length)→(h2:i<b.length)→i<k→a[i]=b[i])∧σ=⟨900,[(0,AN false a),(1,AN false b),(5,I k)],[]⟩) [] [] 0 [0,1,5] 900 zf zf ⟨fun i _ _ h=>absurd h (Nat.not_lt_zero i),by exact zV⟩ ?_;rintro k σ' hk ⟨hR,rfl⟩ J hcJ hJ;by_cases hlt:k<a.length
  ·have hlt' :k<b.length:=by omega
   by_cases he:a[k]=b[k]
   ·(have fa:=(And.intro he @bne_self_eq_false.{0});(repeat' first|refine zQ ?_|refine zN ?_;intro K hC hK|refine zM ?_;try clear hK hC K|refine zC ?_ ?_<;>intro hb|refine zK ?_;intro Jo JU JC AH AJ AG)<;>(try clear fa))
    refine hJ _ hlt ⟨fun i h1 h2 h3=> ?_,by exact zV⟩;by_cases hi:i=k
    ·subst hi;exact he
    ·exact hR i h1 h2 (by omega)
   ·have hne:¬a=b:=fun e=>he (by simp [e])
    (repeat' first|refine zQ ?_|refine zN ?_;intro K hC hK|refine zM ?_;try clear hK hC K|refine zC ?_ ?_<;>intro hb|refine zK ?_;intro Jo JU JC AH AJ AG)
    refine Aa [] ?_ ?_<;>(first|exact AK|refine zE ?_);rw [decide_eq_false hne]
  ·obtain rfl:k=a.length:=by omega
   have he:a=b:=Ff hl fun i h1 h2=>hR i h1 h2 h1
   (repeat' first|refine zQ ?_|refine zN ?_;intro K hC hK|refine zM ?_;try clear hK hC K|refine zC ?_ ?_<;>intro hb|refine zK ?_;intro Jo JU JC AH AJ AG)
   refine Aa [] ?_ ?_<;>(first|exact AK|refine zE ?_);rw [decide_eq_true he]
 ·have he:¬a=b:=fun e=>hl (by rw [e])
  rw [decide_eq_false he];refine zb Tryz.ntmps35 ?_;let tb:=XH;let lv:=Tw;(repeat' first|refine zQ ?_|refine zN ?_;intro K hC hK|refine zM ?_;try clear hK hC K|refine zC ?_ ?_<;>intro hb|refine zK ?_;intro Jo JU JC AH AJ AG)
  refine Aa [] ?_ ?_<;>(first|exact AK|refine zE ?_)
theorem RX:AM Tryz.prog 47 [] (Bh true Ma):=by
 refine Ba ?_;refine zb Tryz.ntmps47 ?_;let tb:=eL;let lv:=Z3;(repeat' first|refine zQ ?_|refine zN ?_;intro K hC hK|refine zM ?_;try clear hK hC K|refine zC ?_ ?_<;>intro hb|refine zK ?_;intro Jo JU JC AH AJ AG)
 refine Aa [] ?_ ?_<;>(first|exact AK|refine zE ?_);refine An.slc rfl fun i e e' h h' => ?_
 cases i with
|zero =>
  simp [Ma] at h h';subst h h';exact .cons .rfl' (.cons (An.nil _ _) (.cons .rfl' .nil))
|succ i=>simp at h
theorem K3 (a b c d:Int):AM Tryz.prog 68 [I a,I b,I c,I d,Bw] (Cb true ⟨[a,b,c,d],[]⟩):=by
 refine Ba ?_;refine zb Tryz.ntmps68 ?_;let tb:=dX;let lv:=aA;(repeat' first|refine zQ ?_|refine zN ?_;intro K hC hK|refine zM ?_;try clear hK hC K|refine zC ?_ ?_<;>intro hb|refine zK ?_;intro Jo JU JC AH AJ AG)
 refine Aa [] ?_ ?_<;>(first|exact AK|refine zE ?_);exact An.agg (.cons .rfl' (.cons (An.nil _ _) .nil))
theorem Ku (a b:List Gp) (ha:a.length≤1000000):AM Tryz.prog 39 [AX false a,AX false b] (B (decide (a=b))):=by
 refine zb Tryz.ntmps39 ?_;let tb:=eZ;let lv:=cN;(repeat' first|refine zS (FO a b ha) ?_|refine zQ ?_|refine zN ?_;intro K hC hK|refine zM ?_;try clear hK hC K|refine zC ?_ ?_<;>intro hb|refine zK ?_;intro Jo JU JC AH AJ AG)
 refine Aa [] ?_ ?_<;>(first|exact AK|refine zE ?_)
instance rgDec:DecidableEq Rg:=fun a b=>if h:a.fm=b.fm∧a.gs=b.gs∧a.at_=b.at_ then isTrue (by cases a;cases b;simp_all) else isFalse (by rintro rfl;simp at h)
theorem VM:GI Eh ⟨[1,1,3,0],[]⟩ (PM Eh ⟨[1,1,3,0],[]⟩) Ma 2=[⟨0,[gp 1 0,gp 4 2],0⟩,⟨0,[gp 1 0,gp 4 2],1⟩]:=by decide +kernel
theorem Ua:DC Eh ⟨[1,1,1,1],[]⟩ Ma (fun k=>Dn Eh ⟨Aq [1,1,1,1] k,[]⟩ (PM Eh ⟨Aq [1,1,1,1] k,[]⟩) Ma)=[3]:=by decide +kernel
theorem WJ:Yx Eh (PM Eh ⟨[1,1,3,0],[]⟩ ⟨1,[],false⟩):=by
 have e:PM Eh ⟨[1,1,3,0],[]⟩ ⟨1,[],false⟩=[[gp 1 0,gp 4 2]]:=by decide +kernel
 rw [e];refine ⟨by simp,fun x hx=> ?_⟩;simp at hx;subst hx;refine ⟨by simp,by simp,fun g hg=> ?_⟩;simp at hg;rcases hg with rfl|rfl<;>decide +kernel
theorem UZ:Ag Eh ⟨[1,1,3,0],[]⟩=0:=by decide +kernel
theorem aO:AM Tryz.prog 28 [AO Eh,Bh false Ma,Cb false ⟨[1,1,3,0],[]⟩,I 2] (N0 false [⟨0,[gp 1 0,gp 4 2],0⟩,⟨0,[gp 1 0,gp 4 2],1⟩]):=by
 have:=JG Eh ⟨[1,1,3,0],[]⟩ (PM Eh ⟨[1,1,3,0],[]⟩) Ma 2 (by simp [Ma]) (by simp [Ma]) (by decide) (by simp) (by simp) fun _ _ f hf=>by
  simp [Ma] at hf;subst hf;exact ⟨WJ,LW _ _ _ rfl UZ⟩
 rw [VM] at this;exact this
theorem cC:AM Tryz.prog 36 [AO Eh,Bh false Ma,Cb false ⟨[1,1,1,1],[]⟩] (AN true [3]):=by
 have:=QM Eh ⟨[1,1,1,1],[]⟩ (by decide) (by simp) (by simp);rw [Ua] at this;exact this
theorem bS:AM Tryz.prog 20 [AO Eh, .agg [I 2,Bw,B false]] (I 3):=by
 have:=IF Eh ⟨2,[],false⟩ (by simp) (by decide);rw [show Az Eh ⟨2,[],false⟩=3 by decide +kernel] at this;exact OE (.cons .rfl' (.cons (An.agg (.cons .rfl' (.cons (An.nil false 1) (.cons .rfl' .nil)))) .nil)) this
set_option maxHeartbeats 4000000 in
theorem Gy:AM Tryz.prog 18 [] (B true):=by
 have CE:AM Tryz.prog 35 [AN false [3], .sl false 1 [I 3]] (B true):=Lb [3] [3] (by simp);have CS1:AM Tryz.prog 68 [I 1,I 1,I 3,I 0,Bw] (Cb true ⟨[1,1,3,0],[]⟩):=K3 1 1 3 0;have CS2:AM Tryz.prog 68 [I 1,I 1,I 1,I 1,Bw] (Cb true ⟨[1,1,1,1],[]⟩):=K3 1 1 1 1;refine zb Tryz.ntmps18 ?_;let tb:=iC;let lv:=ZI;(repeat' first|refine zS Uh ?_|refine zS RX ?_|refine zS CS1 ?_|refine zS CS2 ?_|refine zS aO ?_|refine zS cC ?_|refine zS bS ?_|refine zS CE ?_|refine zQ ?_|refine zN ?_;intro K hC hK|refine zM ?_;try clear hK hC K|refine zC ?_ ?_<;>intro hb|refine zK ?_;intro Jo JU JC AH AJ AG)
 refine Aa [] ?_ ?_<;>(first|exact AK|refine zE ?_)
structure FM (s:AL) (l:List Fm) (h:Hd):Prop where
 f:∀f∈l,f.ks.length≤1000000
 l:l.length≤1000000
 s:s.su.length≤1000000
 m:h.me.length≤1000000
 b:h.bag.length≤1000000
theorem HW {s:AL} {l:List Fm} {h:Hd} (hf:Ch s l h=true):∀f∈l,Az s f=0:=by
 unfold Ch at hf;simp only [Bool.and_eq_true,decide_eq_true_eq] at hf;exact (Ht hf.1).2.2
theorem UK {me:List Gp} {last fm:Int} {c:List Gp}:∀n,∀r∈L2 me last fm c n,r.gs=me++c
|0=>fun r hr=>by cases hr
|n+1=>fun r hr=>by
  rw [L2] at hr;rcases List.mem_append.1 hr with hr|hr
  ·exact UK n r hr
  ·split at hr
   ·simp at hr;subst hr;rfl
   ·cases hr
theorem Ty {A:Fm→List (List Gp)} {me:List Gp} {last:Int} {l:List Fm}:∀n,∀r∈Kn A me last l n,∃f∈l,∃c∈A f,r.gs=me++c
|0=>fun r hr=>by cases hr
|n+1=>fun r hr=>by
  rw [Kn] at hr;rcases List.mem_append.1 hr with hr|hr
  ·exact Ty n r hr
  ·split at hr
   ·cases hr
   ·rename_i f hf;unfold N7 at hr;obtain ⟨c,hc,hr⟩:=List.mem_flatMap.1 hr;exact ⟨f,List.mem_of_getElem? hf,c,hc,UK _ r hr⟩
def Mz (s:AL) (l:List Fm) (h:Hd) (last:Int):List Rg:=GI s h (Hf s h) l last
theorem SA {s:AL} {l:List Fm} {h:Hd} (last:Int) (hl:l.length≤100) (hm:h.me.length≤100):(Mz s l h last).length≤1000000000000∧∀r∈Mz s l h last,r.gs.length≤1000000:=by
 unfold Mz GI;split
 ·rename_i ha;unfold RJ at ha;simp only [Bool.and_eq_true,decide_eq_true_eq] at ha;obtain ⟨⟨⟨⟨c1,c2⟩,_⟩,_⟩,_⟩:=ha;have hA:∀f∈l,Yx s (Hf s h f):=fun f hf=>Nm (HW c1 f hf) c2
  refine ⟨?_,fun r hr=> ?_⟩
  ·have:=Lz (Hf s h) h.me last (fs:=l) (a:=100000) (m:=100) (fun f hf=>⟨(hA f hf).ln,fun c hc=>((hA f hf).w c hc).2.1⟩) l.length;have h2:=Nat.mul_le_mul_right (100000*100) hl;omega
  ·obtain ⟨f,hf,c,hc,e⟩:=Ty _ r hr;have:=((hA f hf).w c hc).2.1;rw [e,List.length_append];omega
 ·exact ⟨by simp,fun r hr=>by cases hr⟩
@[go_sem] theorem yD (l:List Rg):allTL (l.map (Hi true))=true:=VX (fun m=>xJ m) l
theorem A3 {s:AL} {l:List Fm} {h:Hd} (last:Int) (S:FM s l h):AM Tryz.prog 28 [AO s,Bh false l,Cb false h,I last] (N0 true (Mz s l h last)) :=
 M5 s h (Hf s h) l last S.f S.l S.s S.m S.b fun hf hu f hm=>⟨Nm (HW hf f hm) hu,LU s f h (HW hf f hm) hu⟩
theorem C4 {s:AL}:∀{l:List Fm},(∀f∈l,Az s f=0)→El s l=0
|[],_=>rfl
|f::l,h=>by
  have h1:=h f (by simp);rw [El,if_neg (by omega),C4 fun g hg=>h g (by simp [hg])]
theorem k8 {s:AL} {l:List Fm} (hv:AP s=0) (h0:0<l.length) (h8:l.length≤8) (h:∀f∈l,Az s f=0):A6 s l=0:=by
 unfold A6;rw [if_neg (by omega),if_neg (by omega),if_neg (by omega),C4 h]
end Go.Proofs.YthblfhgofopcaaaGreat

namespace Go.Proofs.YthblfhgofopcaaaGreat
theorem A4 {me:List Gp} {last fm:Int} {c:List Gp}:∀n,∀r∈L2 me last fm c n,∃j,j<n∧M1 c last j=true∧r=⟨fm,me++c,me.length+j⟩
|0=>fun r hr=>by cases hr
|n+1=>fun r hr=>by
  rw [L2] at hr;rcases List.mem_append.1 hr with hr|hr
  ·obtain ⟨j,h1,h2⟩:=A4 n r hr;exact ⟨j,by omega,h2⟩
  ·split at hr
   ·rename_i hh;simp at hr;exact ⟨n,by omega,hh,hr⟩
   ·cases hr
theorem xG {A:Fm→List (List Gp)} {me:List Gp} {last:Int} {l:List Fm}:∀n,∀r∈Kn A me last l n,∃(k:Nat) (f:Fm) (c:List Gp) (j:Nat),l[k]? =some f∧c∈A f∧j<c.length∧M1 c last j=true∧r=⟨k,me++c,me.length+j⟩
|0=>fun r hr=>by cases hr
|n+1=>fun r hr=>by
  rw [Kn] at hr;rcases List.mem_append.1 hr with hr|hr
  ·exact xG n r hr
  ·split at hr
   ·cases hr
   ·rename_i f hf;unfold N7 at hr;obtain ⟨c,hc,hr⟩:=List.mem_flatMap.1 hr;obtain ⟨j,h1,h2,h3⟩:=A4 _ r hr;exact ⟨n,f,c,j,hf,hc,h1,h2,h3⟩
theorem xI {s:AL} {l:List Fm} {h:Hd} {last:Int}:∀r∈Mz s l h last,∃(k:Nat) (f:Fm) (c:List Gp) (j:Nat),l[k]? =some f∧c∈Hf s h f∧j<c.length∧M1 c last j=true∧r=⟨k,h.me++c,h.me.length+j⟩:=fun r hr=>by
 unfold Mz GI at hr;split at hr
 ·exact xG _ r hr
 ·cases hr
structure wO (bag:List Int) (c:List Gp):Prop where
 cl:Cl c
 sg:SG c
 ct:∀i,B7 c i=bag.getD i 0
theorem P3 (g:Gp) (i:Nat):∀m:Nat,B7 (List.replicate m g) i=m*Di g i
|0=>by simp [B7]
|m+1=>by
  rw [List.replicate_succ,B7,P3 g i m];have:((m+1:Nat):Int)=m+1:=by omega
  rw [this,Int.add_mul];omega
theorem yA (k:Int) (i:Nat):Di (gp 5 k) i=if k=(i:Int) then 1 else 0:=by
 show Cz [k] i=_;rw [BW];show Cz [] i+_=_;simp [Cz]
theorem yG (k:Int) (i:Nat):Di (gp 4 k) i=if k=(i:Int) then 2 else 0:=by
 show Cz [k,k] i=_;rw [BW,BW];show Cz [] i+_+_=_;simp [Cz];split<;>omega
theorem xH {w:Int} {l m:List Gp} {k:Nat} (hl:SG l) (h:∀g∈l,∃j:Nat,j<k∧(g=gp 5 j∨g=gp 4 j)) (hm:∀g∈m,g=gp w k) (hw:w=5∨w=4) (hs:∀g∈l,g.wh=w):SG (l++m):=by
 unfold SG;rw [List.pairwise_append];refine ⟨hl,?_,fun a ha b hb=> ?_⟩
 ·refine List.pairwise_of_forall_mem_list fun a ha b hb=> ?_
  rw [hm a ha,hm b hb,O0];exact Int.le_refl _
 ·obtain ⟨j,hj,e⟩:=h a ha;have h1:=hs a ha;have e2:=hm b hb;have h3:=A2 a b;have h4:b.wh=w:=by rw [e2]
  have h5:b.kd=k:=by rw [e2]
  have h6:a.kd=j:=by rcases e with e|e<;>rw [e]
  omega
theorem o8 (bag:List Int):∀k,SG (DH bag k)
|0=>List.Pairwise.nil
|k+1=>by
  rw [DH];refine xH (w:=5) (k:=k) (o8 bag k) (fun g hg=> ?_) (fun g hg=>List.eq_of_mem_replicate hg) (.inl rfl) fun g hg=> ?_
  ·obtain ⟨j,hj,e⟩:=UP hg;exact ⟨j,hj, .inl e⟩
  ·obtain ⟨j,_,e⟩:=UP hg;rw [e]
theorem wY (bag:List Int):∀k,SG (FB bag k)
|0=>List.Pairwise.nil
|k+1=>by
  rw [FB];refine xH (w:=4) (k:=k) (wY bag k) (fun g hg=> ?_) (fun g hg=>List.eq_of_mem_replicate hg) (.inr rfl) fun g hg=> ?_
  ·obtain ⟨j,hj,e⟩:=Qr hg;exact ⟨j,hj, .inr e⟩
  ·obtain ⟨j,_,e⟩:=Qr hg;rw [e]
theorem wK {bag:List Int} (hb:∀i,0≤bag.getD i 0) (i:Nat):∀k,B7 (DH bag k) i=if i<k then bag.getD i 0 else 0
|0=>by simp [DH,B7]
|k+1=>by
  rw [DH,RC,wK hb i k,P3,yA];have:=hb k;by_cases h:k=i
  ·subst h;rw [if_neg (by omega),if_pos rfl,if_pos (by omega)];omega
  ·rw [if_neg (show ¬(k:Int)=(i:Int) by omega)];by_cases h2:i<k
   ·rw [if_pos h2,if_pos (by omega)];omega
   ·rw [if_neg h2,if_neg (by omega)];omega
theorem wX {bag:List Int} (hb:∀i,0≤bag.getD i 0) (he:∀i,i<bag.length→bag.getD i 0 % 2=0) (i:Nat):∀k,k≤bag.length→B7 (FB bag k) i=if i<k then bag.getD i 0 else 0
|0,_=>by simp [FB,B7]
|k+1,hk=>by
  rw [FB,RC,wX hb he i k (by omega),P3,yG];have:=hb k;have:=he k (by omega);by_cases h:k=i
  ·subst h;rw [if_neg (by omega),if_pos rfl,if_pos (by omega)];omega
  ·rw [if_neg (show ¬(k:Int)=(i:Int) by omega)];by_cases h2:i<k
   ·rw [if_pos h2,if_pos (by omega)];omega
   ·rw [if_neg h2,if_neg (by omega)];omega
theorem w7 {bag:List Int} (hb:∀i,0≤bag.getD i 0) (he:∀i,i<bag.length→bag.getD i 0≤2) (i:Nat):∀k,k≤bag.length→B7 (ET bag k) i=if i<k then bag.getD i 0 else 0
|0,_=>by simp [ET,B7]
|k+1,hk=>by
  rw [ET,RC,w7 hb he i k (by omega)];have h0:=hb k;have h2:=he k (by omega);have hx:B7 (if bag.getD k 0=1 then [gp 5 k] else if bag.getD k 0=2 then [gp 4 k] else []) i=if k=i then bag.getD k 0 else 0:=by
   by_cases c1:bag.getD k 0=1
   ·rw [if_pos c1];show Di (gp 5 k) i+0=_;rw [yA,c1];by_cases h:k=i
    ·subst h;simp
    ·rw [if_neg (show ¬(k:Int)=(i:Int) by omega),if_neg h];rfl
   ·rw [if_neg c1];by_cases c2:bag.getD k 0=2
    ·rw [if_pos c2];show Di (gp 4 k) i+0=_;rw [yG,c2];by_cases h:k=i
     ·subst h;simp
     ·rw [if_neg (show ¬(k:Int)=(i:Int) by omega),if_neg h];rfl
    ·rw [if_neg c2];show (0:Int)=_;split<;>omega
  rw [hx];by_cases h:k=i
  ·subst h;rw [if_neg (by omega),if_pos rfl,if_pos (by omega)];omega
  ·rw [if_neg h];by_cases h2:i<k
   ·rw [if_pos h2,if_pos (by omega)];omega
   ·rw [if_neg h2,if_neg (by omega)];omega
theorem wS {bag:List Int} (i:Nat):(if i<bag.length then bag.getD i 0 else 0)=bag.getD i 0:=by
 by_cases h:i<bag.length
 ·rw [if_pos h]
 ·rw [if_neg h];simp [h]
theorem xB {bag:List Int} (hb:∀i,0≤bag.getD i 0):wO bag (Hp bag) :=
 ⟨fun g hg=>by obtain ⟨j,_,e⟩:=UP hg;rw [e],o8 bag _,fun i=>by unfold Hp;rw [wK hb,wS]⟩
theorem yE {bag:List Int} (hb:∀i,0≤bag.getD i 0) (he:∀i,i<bag.length→bag.getD i 0 % 2=0):wO bag (g7 bag) :=
 ⟨fun g hg=>by obtain ⟨j,_,e⟩:=Qr hg;rw [e],wY bag _,fun i=>by unfold g7;rw [wX hb he i _ (Nat.le_refl _),wS]⟩
theorem yC {bag:List Int} (hb:∀i,0≤bag.getD i 0) (he:∀i,i<bag.length→bag.getD i 0≤2):wO bag (CX (ET bag bag.length)) :=
 ⟨fun g hg=>by
  obtain ⟨j,_,e⟩:=Rp ((BV _).subset hg)
  rcases e with e|e<;>rw [e],HV _,fun i=>by rw [EK (BV _),w7 hb he i _ (Nat.le_refl _),wS]⟩
theorem xA (i:Nat):∀ks,B7 (KZ ks) i=Cz ks i
|[]=>rfl
|k::ks=>by
  show Di (gp 5 k) i+B7 (KZ ks) i=_;rw [yA,xA i ks,BW];omega
theorem xM:∀{ks:List Int},GR ks→SG (KZ ks)
|[],_=>List.Pairwise.nil
|k::ks,h=>by
  have h:=List.pairwise_cons.1 h;refine List.pairwise_cons.2 ⟨fun g hg=> ?_,xM h.2⟩;obtain ⟨z,hz,rfl⟩:=List.mem_map.1 hg;have:=h.1 z hz;have h3:=A2 (gp 5 k) (gp 5 z);dsimp only at h3;omega
theorem x6 {s:AL} {f:Fm} {h:Hd} (hf:Az s f=0) (hU:Am s h=true):SL (Hf s h f)∧∀c∈Hf s h f,wO h.bag c:=by
 obtain ⟨ho,hsum⟩:=Pt hU;have F:=Nf hf;have V:=AU ho.va;have hme:=V.me;have hco:=V.co;have hmm:=ho.mm;obtain ⟨b1,b2,b3⟩:=Mx ho.va ho.cn;have nw:=F.nw;have hw:=F.wh;unfold Cs at nw;have hr:C7 h.bag.length (AT s):=fun k h=>by have:=Ct h;omega
 have hbg:Bg h.bag.length h.bag:=⟨rfl,fun i=>(b1 i).1⟩;have hb0:∀i,0≤h.bag.getD i 0:=fun i=>(b1 i).1
 have nil:SL ([]:List (List Gp))∧∀c∈([]:List (List Gp)),wO h.bag c:=⟨List.Pairwise.nil,fun c hc=>by cases hc⟩;have one:∀x,wO h.bag x→SL [x]∧∀c∈[x],wO h.bag c:=fun x hx=>⟨List.pairwise_singleton ..,fun c hc=>by simp at hc;subst hc;exact hx⟩
 unfold Hf;by_cases hm:(h.me.length:Int)≤He s f
 ·rw [if_pos hm];unfold QP;have hw' :f.wh=1∨f.wh=2∨f.wh=3∨f.wh=4∨f.wh=5∨f.wh=6:=by omega
  rcases hw' with hw|hw|hw|hw|hw|hw<;>rw [hw]
  ·rw [if_pos rfl];obtain ⟨h1,h2⟩:=Fb hr hbg (f:=20) (by omega);exact ⟨h1,fun c hc=>⟨((h2 c).1 hc).cl,((h2 c).1 hc).sg,((h2 c).1 hc).ct⟩⟩
  ·rw [if_neg (by decide),if_pos rfl];unfold EW;split
   ·exact nil
   ·rename_i hb;refine one _ (yE hb0 fun i hi=> ?_);have e:h.bag.getD i 0=h.bag[i]:=by simp [hi]
    have:Iy f.ag h.bag[i]=false:=by
     cases hc:Iy f.ag h.bag[i] with
    |false=>rfl
    |true=>exact absurd (EX hi hc) hb
    unfold Iy at this;simp only [Bool.or_eq_false_iff,decide_eq_false_iff_not] at this;rw [e];omega
  ·rw [if_neg (by decide),if_neg (by decide),if_pos rfl];unfold I9;split
   ·rename_i hg;have hg:=IV.1 hg;exact one _ (yC hb0 fun i hi=>(hg i hi).2)
   ·exact nil
  ·rw [if_neg (by decide),if_neg (by decide),if_neg (by decide),if_pos rfl];unfold Gm;split
   ·exact one _ (xB hb0)
   ·exact nil
  ·rw [if_neg (by decide),if_neg (by decide),if_neg (by decide),if_neg (by decide),if_pos rfl];have h9:s.su=[9,9,9]:=by
    by_cases h:s.su=[9,9,9]
    ·exact h
    ·exact absurd (.inr (.inr (.inr (.inr (.inl ⟨hw, .inl h⟩))))) nw
   have h27:27≤h.bag.length:=by
    have h1:=F1 ho.va;have h2:=V.wi;have h3:=V.dr;have:AQ s=s.wi+s.dr+27:=by unfold AQ;rw [h9];rfl
    omega
   obtain ⟨S,p1,p2⟩:=Qq (Ln (AT s) 20 JR h.bag);obtain ⟨e,hsl⟩:=YS hr hbg (by omega) (fun w hw=>by
    obtain ⟨a,b,c,rfl,ha,hb,hc⟩:=Gq w hw
    exact ⟨Qf ha hb hc,SW ha hb hc h27⟩) (fun a ha b hb e=>Td a ha b hb e) p1 p2
   refine ⟨hsl,fun x hx=> ?_⟩;rw [←e] at hx;have:=p1.subset hx;unfold Ln at this;obtain ⟨w,hw,hx⟩:=List.mem_flatMap.1 this;obtain ⟨a,b,c,rfl,ha,hb,hc⟩:=Gq w hw;have hin:=SW (n:=h.bag.length) ha hb hc h27;unfold HK at hx;rcases C5 _ h.bag hin hb0 with ⟨h1,h2⟩|⟨h1,_⟩
   ·rw [h1] at hx;dsimp only at hx;have hbd:=hbg.dec hin h2;have hsum2:=Ck _ h.bag hin;obtain ⟨l,hl,rfl⟩:=List.mem_map.1 hx;have hx:=((Fb hr hbd (f:=20) (by omega)).2 l).1 hl;have h4:=dM hx;refine ⟨fun g hg=> ?_,?_,fun i=> ?_⟩
    ·rcases List.mem_append.1 hg with hg|hg
     ·exact hx.cl g hg
     ·exact Xx _ g hg
    ·unfold SG;rw [List.pairwise_append];refine ⟨hx.sg,xM (Qf ha hb hc),fun g hg y hy=> ?_⟩;have h5:=h4 g hg;have h6:=gP _ y hy;have h7:=A2 g y;omega
    ·rw [RC,hx.ct,xA,BF _ _ hin];omega
   ·rw [h1] at hx;cases hx
  ·rw [if_neg (by decide),if_neg (by decide),if_neg (by decide),if_neg (by decide),if_neg (by decide)];unfold Ni;split
   ·exact one _ (xB hb0)
   ·exact nil
 ·rw [if_neg hm];exact nil
def A1:List Gp→List Gp→Int
|a::l,b::m=>if C6 a b=0 then A1 l m else C6 a b
|l,m=>l.length-m.length
theorem i8:∀a b:List Gp,(A1 a b=0↔BL a b=0)∧(0<A1 a b↔0<BL a b)
|[],[]=>by simp [A1,BL]
|[],_::_=>by simp [A1,BL];omega
|_::_,[]=>by simp [A1,BL];omega
|a::l,b::m=>by
  have ih:=i8 l m;unfold A1 BL;by_cases h:C6 a b=0
  ·rw [if_pos h,if_pos h];exact ih
  ·rw [if_neg h,if_neg h];exact ⟨.rfl, .rfl⟩
theorem wT (a b:List Gp) {k:Nat} (h1:k<a.length) (h2:k<b.length):A1 (a.drop k) (b.drop k)=if C6 a[k] b[k]=0 then A1 (a.drop (k+1)) (b.drop (k+1)) else C6 a[k] b[k]:=by
 rw [List.drop_eq_getElem_cons h1,List.drop_eq_getElem_cons h2,A1]
theorem w9 (a b:List Gp) {k:Nat} (h:¬(k<a.length∧k<b.length)) (h1:k≤a.length) (h2:k≤b.length):A1 (a.drop k) (b.drop k)=(a.length:Int)-b.length:=by
 have e:a.drop k=[]∨b.drop k=[]:=by
  by_cases h3:k<a.length
  ·exact .inr (List.drop_eq_nil_of_le (by omega))
  ·exact .inl (List.drop_eq_nil_of_le (by omega))
 have l1:(a.drop k).length=a.length-k:=List.length_drop;have l2:(b.drop k).length=b.length-k:=List.length_drop;rcases e with e|e
 ·rw [e] at l1 ⊢;cases hb:b.drop k with
 |nil=>rw [hb] at l2;simp [A1] at *;omega
 |cons y m=>rw [hb] at l2;simp [A1] at *;omega
 ·rw [e] at l2 ⊢;cases ha:a.drop k with
 |nil=>rw [ha] at l1;simp [A1] at *;omega
 |cons y m=>rw [ha] at l1;simp [A1] at *;omega
theorem wZ:∀(m a b:List Gp),BL (m++a) (m++b)=BL a b
|[],_,_=>rfl
|g::m,a,b=>by
  show (if C6 g g=0 then BL (m++a) (m++b) else C6 g g)=_;rw [O0,if_pos rfl,wZ m a b]
end Go.Proofs.YthblfhgofopcaaaGreat

namespace Go.Proofs.YthblfhgofopcaaaGreat
open Go.RowKit
set_option maxRecDepth 100000
set_option maxHeartbeats 2000000
theorem wU (a b:Gp):Uv a b=decide (C6 a b= -1):=by
 have h:=A2 a b;unfold Uv;rw [Bool.eq_iff_iff];simp;omega
theorem l4 (a b:List Gp) (h1:a.length≤1000000) (h2:b.length≤1000000):AM Tryz.prog 103 [AX false a,AX false b] (I (A1 a b)):=by
 refine zb Tryz.ntmps103 ?_;let tb:=oT;let lv:=jG;(repeat' first|refine zQ ?_|refine zN ?_;intro K hC hK|refine zM ?_;try clear hK hC K|refine zC ?_ ?_<;>intro hb|refine zK ?_;intro Jo JU JC AH AJ AG)
 refine Ab (min a.length b.length) (fun k σ=>A1 a b=A1 (a.drop k) (b.drop k)∧σ=⟨900,[(0,AX false a),(1,AX false b),(5,I k)],[]⟩) [] [] 0 [0,1,5] 900 zf zf ⟨rfl,by exact zV⟩ ?_;rintro k σ' hk ⟨hR,rfl⟩ J hcJ hJ;by_cases h:k<a.length∧k<b.length
 ·obtain ⟨ha,hb⟩:=h;have hd:=wT a b ha hb;obtain ⟨x,hx⟩:∃x,a[k]=x:=⟨_,rfl⟩;obtain ⟨z,hz⟩:∃z,b[k]=z:=⟨_,rfl⟩;rw [hx,hz] at hd;have g:=A2 x z;have g2:=Gt x z;have C1:=Re x z;have C2:=Re z x;rw [wU] at C1 C2;rcases g with ⟨g,_⟩|⟨g,_⟩|⟨g,_⟩
  ·rw [decide_eq_true g] at C1;rw [hR,hd,if_neg (by omega),g];(have fa:=(And.intro hx hz);(repeat' first|refine zS C1 ?_|refine zQ ?_|refine zN ?_;intro K hC hK|refine zM ?_;try clear hK hC K|refine zC ?_ ?_<;>intro hb|refine zK ?_;intro Jo JU JC AH AJ AG)<;>(try clear fa))
   refine Aa [] ?_ ?_<;>(first|exact AK|refine zE ?_)
  ·rw [decide_eq_false (by omega)] at C1 C2;(have fa:=(And.intro hx hz);(repeat' first|refine zS C1 ?_|refine zS C2 ?_|refine zQ ?_|refine zN ?_;intro K hC hK|refine zM ?_;try clear hK hC K|refine zC ?_ ?_<;>intro hb|refine zK ?_;intro Jo JU JC AH AJ AG)<;>(try clear fa))
   exact hJ _ (by omega) ⟨by rw [hR,hd,if_pos g],by exact zV⟩
  ·rw [decide_eq_false (by omega)] at C1;rw [decide_eq_true (by omega)] at C2;rw [hR,hd,if_neg (by omega),g];(have fa:=(And.intro hx hz);(repeat' first|refine zS C1 ?_|refine zS C2 ?_|refine zQ ?_|refine zN ?_;intro K hC hK|refine zM ?_;try clear hK hC K|refine zC ?_ ?_<;>intro hb|refine zK ?_;intro Jo JU JC AH AJ AG)<;>(try clear fa))
   refine Aa [] ?_ ?_<;>(first|exact AK|refine zE ?_)
 ·have he:=w9 a b h (by omega) (by omega);(repeat' first|refine zQ ?_|refine zN ?_;intro K hC hK|refine zM ?_;try clear hK hC K|refine zC ?_ ?_<;>intro hb|refine zK ?_;intro Jo JU JC AH AJ AG)
  all_goals
   refine Aa [] ?_ ?_<;>(first|exact AK|refine zE ?_);rw [hR,he]
theorem xP (l:List Int) (n:Int) (h:l.length≤1000000):AM Tryz.prog 42 [AN false l,I n] (B (l.any fun z=>z==n)):=by
 refine zb Tryz.ntmps42 ?_;let tb:=sT;let lv:=qP;(repeat' first|refine zQ ?_|refine zN ?_;intro K hC hK|refine zM ?_;try clear hK hC K|refine zC ?_ ?_<;>intro hb|refine zK ?_;intro Jo JU JC AH AJ AG)
 refine Ab l.length (fun k σ=>(l.any fun z=>z==n)=((l.drop k).any fun z=>z==n)∧σ=⟨900,[(0,AN false l),(1,I n),(5,I k)],[]⟩) [] [] 0 [0,1,5] 900 zf zf ⟨rfl,by exact zV⟩ ?_;rintro k σ' hk ⟨hR,rfl⟩ J hcJ hJ;by_cases h:k<l.length
 ·have hd:=Wb (p:=fun z=>z==n) h;obtain ⟨z,hz⟩:∃z,l[k]=z:=⟨_,rfl⟩;rw [hz] at hd;by_cases f:z=n
  ·subst f;rw [hR,hd];(have fa:=hz;(repeat' first|refine zQ ?_|refine zN ?_;intro K hC hK|refine zM ?_;try clear hK hC K|refine zC ?_ ?_<;>intro hb|refine zK ?_;intro Jo JU JC AH AJ AG)<;>(try clear fa))
   refine Aa [] ?_ ?_<;>(first|exact AK|refine zE ?_);simp
  ·(have fa:=hz;(repeat' first|refine zQ ?_|refine zN ?_;intro K hC hK|refine zM ?_;try clear hK hC K|refine zC ?_ ?_<;>intro hb|refine zK ?_;intro Jo JU JC AH AJ AG)<;>(try clear fa))
   exact hJ _ h ⟨by rw [hR,hd];simp [f],by exact zV⟩
 ·obtain rfl:k=l.length:=by omega
  (repeat' first|refine zQ ?_|refine zN ?_;intro K hC hK|refine zM ?_;try clear hK hC K|refine zC ?_ ?_<;>intro hb|refine zK ?_;intro Jo JU JC AH AJ AG)
  refine Aa [] ?_ ?_<;>(first|exact AK|refine zE ?_);rw [hR,List.drop_length];rfl
theorem w8 (n m:Int) (h0:0<m) (h1:m≤1000000000):AM Tryz.prog 26 [I n,I m] (I (n % m)):=by
 have hm:=Int.emod_nonneg n (show m≠0 by omega);have hl:=Int.emod_lt_of_pos n h0;have ht:n.tmod m=n % m∨(n.tmod m<0∧n.tmod m+m=n % m):=by
  rw [Int.tmod_eq_emod];split
  ·left;omega
  ·right;have:(m.natAbs:Int)=m:=by omega
   rw [this];omega
 obtain ⟨z,hz⟩:∃z,n.tmod m=z:=⟨_,rfl⟩;obtain ⟨y,hy⟩:∃y,n % m=y:=⟨_,rfl⟩;rw [hz,hy] at ht;rw [hy] at hm hl ⊢;have hne:¬m=0:=by omega
 refine zb Tryz.ntmps26 ?_;let tb:=x7;let lv:=x4;(have fa:=hz;(repeat' first|refine zQ ?_|refine zN ?_;intro K hC hK|refine zM ?_;try clear hK hC K|refine zC ?_ ?_<;>intro hb|refine zK ?_;intro Jo JU JC AH AJ AG)<;>(try clear fa))
 ·obtain rfl:y=z+m:=by omega
  refine Aa [] ?_ ?_<;>(first|exact AK|refine zE ?_)
 ·obtain rfl:y=z:=by omega
  refine Aa [] ?_ ?_<;>(first|exact AK|refine zE ?_)
def o6 (x r:Rg):Bool:=decide (x.fm=r.fm)&&(decide (x.at_=r.at_)&&decide (x.gs=r.gs))
def yI (L:List Rg) (r:Rg):Bool:=L.any fun x=>o6 x r
section
variable (r:Rg)
theorem yF (x:Rg) (h1:x.gs.length≤1000000):D3 Tryz.prog 116 [Hi false x, .ref 0 0 0 0] [(0, .arr 0 3 [Hi false r])] (B (o6 x r)) [(0, .arr 0 3 [Hi false r])]:=by
 have CE:=dE x.gs r.gs h1;unfold o6;obtain ⟨xf,xg,xa⟩:=x;obtain ⟨rf,rg,ra⟩:=r;dsimp only at CE h1 ⊢;obtain ⟨E,hE⟩:∃E,decide (xg=rg)=E:=⟨_,rfl⟩;rw [hE] at CE ⊢;unfold D3;refine FL 1 Tryz.ntmps116 ?_;let tb:=xW;let lv:=xQ;(repeat' first|refine zS CE ?_|refine zQ ?_|refine zN ?_;intro K hC hK|refine zM ?_;try clear hK hC K|refine zC ?_ ?_<;>intro hb|refine zK ?_;intro Jo JU JC AH AJ AG)
 all_goals (refine Aa [(0,0)] ?_ ?_<;>(first|exact AK|refine zE ?_);simp_all [B])
theorem xS (L:List Rg) (hl:L.length≤1000000000000) (hL:∀x∈L,x.gs.length≤1000000):Hn Tryz.prog 155 [N0 false L, .clo 116 [.ref 0 0 0 0]] [(0, .arr 0 3 [Hi false r])] (fun k:Int=>I k) (fun _=>[(0, .arr 0 3 [Hi false r])]) (fun k=>decide (0≤k)=yI L r):=by
 unfold Hn;refine FL 1 Tryz.ntmps155 ?_;let tb:=xU;let lv:=xC;(repeat' first|refine zQ ?_|refine zN ?_;intro K hC hK|refine zM ?_;try clear hK hC K|refine zC ?_ ?_<;>intro hb|refine zK ?_;intro Jo JU JC AH AJ AG)
 refine Ab L.length (fun j σ=>(∀i,(hi:i<L.length)→i<j→o6 L[i] r=false)∧σ=⟨900,[(0,N0 false L),(1, .clo 116 [.ref 0 0 0 0]),(7,I L.length),(8,I j)],[(0, .arr 0 3 [Hi false r])]⟩) [(0,0)] [(0,0)] 0 [0,1,7,8] 900 zg zg ⟨fun i _ hi=>absurd hi (Nat.not_lt_zero i),by exact zV⟩ ?_;rintro j σ' hj ⟨hR,rfl⟩ J hcJ hJ;by_cases hlt:j<L.length
 ·obtain ⟨x,hx⟩:∃x,L[j]=x:=⟨_,rfl⟩;have C1:=yF r x (hL x (by rw [←hx];exact List.getElem_mem hlt));cases hn:o6 x r with
 |true =>
   rw [hn] at C1;(have fa:=hx;(repeat' first|refine zJ (tg [0]) C1 ?_|refine zQ ?_|refine zN ?_;intro K hC hK|refine zM ?_;try clear hK hC K|refine zC ?_ ?_<;>intro hb|refine zK ?_;intro Jo JU JC AH AJ AG)<;>(try clear fa))
   refine Aa [(0,0)] ?_ ?_<;>(first|exact AK|refine zE ?_);refine ⟨(j:Int),?_,rfl⟩;rw [decide_eq_true (by omega)];exact (List.any_eq_true.2 ⟨x,by rw [←hx];exact List.getElem_mem hlt,hn⟩).symm
 |false =>
   rw [hn] at C1;(have fa:=hx;(repeat' first|refine zJ (tg [0]) C1 ?_|refine zQ ?_|refine zN ?_;intro K hC hK|refine zM ?_;try clear hK hC K|refine zC ?_ ?_<;>intro hb|refine zK ?_;intro Jo JU JC AH AJ AG)<;>(try clear fa))
   refine hJ _ hlt ⟨fun i hi h2=> ?_,by exact zV⟩;by_cases e:i=j
   ·subst e;rw [hx];exact hn
   ·exact hR i hi (by omega)
 ·(repeat' first|refine zQ ?_|refine zN ?_;intro K hC hK|refine zM ?_;try clear hK hC K|refine zC ?_ ?_<;>intro hb|refine zK ?_;intro Jo JU JC AH AJ AG)
  refine Aa [(0,0)] ?_ ?_<;>(first|exact AK|refine zE ?_);refine ⟨-1,?_,rfl⟩;rw [decide_eq_false (by omega)];refine (List.any_eq_false.2 fun f hf=> ?_).symm;obtain ⟨i,hi,rfl⟩:=List.mem_iff_getElem.1 hf;have:=hR i hi (by omega);simp [this]
theorem x5 (L:List Rg) (hl:L.length≤1000000000000) (hL:∀x∈L,x.gs.length≤1000000):D3 Tryz.prog 115 [N0 false L, .clo 116 [.ref 0 0 0 0]] [(0, .arr 0 3 [Hi false r])] (B (yI L r)) [(0, .arr 0 3 [Hi false r])]:=by
 have CI:=xS r L hl hL;unfold D3;refine FL 1 Tryz.ntmps115 ?_;let tb:=xX;let lv:=xN;(repeat' first|refine zQ ?_|refine zN ?_;intro K hC hK|refine zM ?_;try clear hK hC K|refine zC ?_ ?_<;>intro hb|refine zK ?_;intro Jo JU JC AH AJ AG)
 (refine zX (tg [0]) (CI) ?_;clear AH AJ AG Jo JU JC);intro xr hxr;(repeat' first|refine zQ ?_|refine zN ?_;intro K hC hK|refine zM ?_;try clear hK hC K|refine zC ?_ ?_<;>intro hb|refine zK ?_;intro Jo JU JC AH AJ AG)
 refine Aa [(0,0)] ?_ ?_<;>(first|exact AK|refine zE ?_);rw [←hxr]
theorem wL {s:AL} {l:List Fm} {h:Hd} (last:Int) (S:FM s l h) (hl:l.length≤100) (hm:h.me.length≤100):AM Tryz.prog 51 [AO s,Bh false l,Cb false h,I last,Hi false r] (B (yI (Mz s l h last) r)):=by
 have CR:=A3 last S;obtain ⟨p1,p2⟩:=SA (s:=s) (l:=l) (h:=h) last hl hm;obtain ⟨L,hL⟩:∃L,Mz s l h last=L:=⟨_,rfl⟩;rw [hL] at CR p1 p2 ⊢;have CC:=x5 r L p1 p2;refine zb Tryz.ntmps51 ?_;let tb:=x8;let lv:=xY;(repeat' first|refine zS CR ?_|refine zJ (tg [32]) CC ?_|refine zQ ?_|refine zN ?_;intro K hC hK|refine zM ?_;try clear hK hC K|refine zC ?_ ?_<;>intro hb|refine zK ?_;intro Jo JU JC AH AJ AG)
 refine Aa [] ?_ ?_<;>(first|exact AK|refine zE ?_)
end
end Go.Proofs.YthblfhgofopcaaaGreat

namespace Go.Proofs.YthblfhgofopcaaaGreat
def yJ (y x:Rg):Prop:=y.fm<x.fm∨(y.fm=x.fm∧(BL y.gs x.gs<0∨(y.gs=x.gs∧y.at_<x.at_)))
theorem xK {me:List Gp} {last fm:Int} {c:List Gp}:∀n,(L2 me last fm c n).Pairwise yJ
|0=>List.Pairwise.nil
|n+1=>by
  rw [L2,List.pairwise_append];refine ⟨xK n,by split<;>simp,fun a ha b hb=> ?_⟩;obtain ⟨j,h1,_,rfl⟩:=A4 n a ha;split at hb
  ·simp at hb;subst hb;exact .inr ⟨rfl, .inr ⟨rfl,by dsimp only;omega⟩⟩
  ·cases hb
theorem xR {me:List Gp} {last fm:Int}:∀{cs:List (List Gp)},SL cs→(N7 me last fm cs).Pairwise yJ
|[],_=>List.Pairwise.nil
|c::cs,h=>by
  have h:=List.pairwise_cons.1 h;have e:N7 me last fm (c::cs)=L2 me last fm c c.length++N7 me last fm cs:=by unfold N7;rw [List.flatMap_cons]
  rw [e,List.pairwise_append];refine ⟨xK _,xR h.2,fun a ha b hb=> ?_⟩;obtain ⟨j,_,_,rfl⟩:=A4 _ a ha;unfold N7 at hb;obtain ⟨x,hx,hb⟩:=List.mem_flatMap.1 hb;obtain ⟨k,_,_,rfl⟩:=A4 _ b hb;exact .inr ⟨rfl, .inl (by dsimp only;rw [wZ];exact h.1 x hx)⟩
theorem xO {A:Fm→List (List Gp)} {me:List Gp} {last:Int} {l:List Fm} (hA:∀f∈l,SL (A f)):∀n,(Kn A me last l n).Pairwise yJ∧∀r∈Kn A me last l n,r.fm<(n:Int)
|0=>⟨List.Pairwise.nil,fun r hr=>by cases hr⟩
|n+1=>by
  obtain ⟨h1,h2⟩:=xO (me:=me) (last:=last) hA n;rw [Kn];cases hf:l[n]? with
 |none =>
   simp only [List.append_nil];exact ⟨h1,fun r hr=>by have:=h2 r hr;omega⟩
 |some f =>
   simp only;have hfm:∀r∈N7 me last n (A f),r.fm=n:=fun r hr=>by
    unfold N7 at hr;obtain ⟨x,_,hr⟩:=List.mem_flatMap.1 hr;obtain ⟨k,_,_,rfl⟩:=A4 _ r hr;rfl
   refine ⟨List.pairwise_append.2 ⟨h1,xR (hA f (List.mem_of_getElem? hf)),fun a ha b hb=> ?_⟩,fun r hr=> ?_⟩
   ·have:=h2 a ha;have:=hfm b hb;exact .inl (by omega)
   ·rcases List.mem_append.1 hr with hr|hr
    ·have:=h2 r hr;omega
    ·have:=hfm r hr;omega
theorem wP {s:AL} {l:List Fm} {h:Hd} {last:Int} (hf:A6 s l=0) (hU:Am s h=true):(Mz s l h last).Pairwise yJ:=by
 unfold Mz GI;split
 ·exact (xO (fun f hm=>(x6 ((Ht hf).2.2 f hm) hU).1) _).1
 ·exact List.Pairwise.nil
theorem l3 {s:AL} {l:List Fm} {h:Hd} {k:Nat} (h0:0<(Mz s l h k).length):h.bag.getD k 0≠0:=fun e=>by
 unfold Mz GI RJ at h0;have:decide (h.bag.getD (k:Int).toNat 0≠0)=false:=by rw [Int.toNat_natCast,e];rfl
 rw [this,Bool.and_false,if_neg (by simp)] at h0;simp at h0
end Go.Proofs.YthblfhgofopcaaaGreat

namespace Go.Proofs.YthblfhgofopcaaaGreat
open Go.RowKit
set_option maxRecDepth 100000
set_option maxHeartbeats 2000000
def wN (c:List Gp):List Int:=c.flatMap fun g=>AI g.wh g.kd
theorem xL {c:List Gp} {p:Nat} (h:p<c.length):wN (c.take (p+1))=wN (c.take p)++AI c[p].wh c[p].kd:=by
 unfold wN;rw [List.take_succ_eq_append_getElem h,List.flatMap_append];simp
theorem xD (Z a b:List Int):A5 Z (a++b)=A5 (A5 Z a) b:=by
 unfold A5;rw [List.foldl_append]
theorem xE {n:Nat} {c:List Gp} (h:∀g∈c,D8 n (AI g.wh g.kd)) (p:Nat):D8 n (wN (c.take p)):=fun z hz=>by
 obtain ⟨g,hg,hz⟩:=List.mem_flatMap.1 hz;exact h g (List.mem_of_mem_take hg) z hz
set_option maxHeartbeats 8000000 in
theorem wQ {s:AL} {X:List Int} {ms c:List Gp} {fm:Int} {j last:Nat} (hv:AP s=0) (hA:wO X c) (hw:∀g∈c,Ak s g.wh g.kd=0) (hin:∀g∈c,D8 X.length (AI g.wh g.kd)) (hcl:c.length≤100) (hml:ms.length≤100) (hXl:X.length≤1000) (hj:j<c.length) (hh:M1 c last j=true) :
  AM Tryz.prog 59 [AO s,Cb false ⟨X,ms⟩,I last,Hi false ⟨fm,ms++c,ms.length+j⟩] (B true):=by
 have CG:=Ku ms ms (by omega);rw [decide_eq_true rfl] at CG;have hab:(ms++c).length=ms.length+c.length:=by simp
 have htm:List.take ms.length (ms++c)=ms:=by simp
 have hG1:∀t (ht:t<c.length),(ms++c)[ms.length+t]'(by omega)=c[t]:=fun t ht=>by
  rw [List.getElem_append_right (by omega)];simp
 obtain ⟨G,hG⟩:∃G,ms++c=G:=⟨_,rfl⟩;rw [hG] at hab htm ⊢;simp only [hG] at hG1;have htn:List.take ((ms.length:Int)-0).toNat G=ms:=by rw [show ((ms.length:Int)-0).toNat=ms.length by omega,htm]
 have hflt:∀p,(wN (c.take p)).length≤400:=fun p=>by
  unfold wN;have:∀l:List Gp,(l.flatMap fun g=>AI g.wh g.kd).length≤4*l.length:=fun l=>by
   induction l with
  |nil=>simp
  |cons g l ih=>have:=Bt g.wh g.kd;rw [List.flatMap_cons,List.length_append,List.length_cons];omega
  have:=this (c.take p);rw [List.length_take] at this;omega
 have hz0:A5 (List.replicate X.length 0) (wN (c.take 0))=List.replicate X.length 0:=rfl;have hzr:List.replicate X.length (AV.v (.int .i64 0))=(List.replicate X.length 0).map I:=by rw [List.map_replicate]
 refine zb Tryz.ntmps59 ?_;let tb:=x9;let lv:=xZ;(have fa:=(And.intro htn hzr);(repeat' first|refine zS CG ?_|refine zQ ?_|refine zN ?_;intro K hC hK|refine zM ?_;try clear hK hC K|refine zC ?_ ?_<;>intro hb|refine zK ?_;intro Jo JU JC AH AJ AG)<;>(try clear fa))
 refine At (α:=Nat) (fun p=>[(2,I last),(4, .ref 0 0 0 0),(5, .ref 1 0 0 0),(7, .ref 2 0 0 0),(9,I ms.length),(10, .rsl 3 0 0 X.length),(11,I ((ms.length+p:Nat)))]) (fun p=>[(0, .arr 0 9 [AO s]),(1, .arr 0 2 [Cb false ⟨X,ms⟩]),(2, .arr 0 3 [Hi false ⟨fm,G,ms.length+j⟩]),(3, .arr 0 1 ((A5 (List.replicate X.length 0) (wN (c.take p))).map I))])
  (fun p=>c.length-p) (fun p=>p≤c.length) [(0,0),(16,1),(32,2),(1200,3)] [(0,0),(1,1),(2,2),(3,3)] 1 [2,4,5,7,9,10,11] 900 zf zf 0 (Nat.zero_le _) (by (have fa:=(And.intro hz0 Nat.add_zero);exact C8)) ?_
 rintro p hp J hcJ hJ;by_cases hlt:p<c.length
 ·obtain ⟨g,hg⟩:∃g,c[p]=g:=⟨_,rfl⟩;have hgm:g∈c:=by rw [←hg];exact List.getElem_mem hlt
  have e1:G[ms.length+p]'(by omega)=g:=by rw [hG1 p hlt,hg]
  have hgo:=hA.cl g hgm;have CT:=Ep s g;rw [show BT s g.wh g.kd=AI g.wh g.kd by unfold BT;rw [if_pos ⟨hv,hw g hgm⟩]] at CT;have hgi:=hin g hgm;have hl4:=Bt g.wh g.kd;have hl1:0<(AI g.wh g.kd).length:=by unfold AI;(repeat' split)<;>simp
  have hs:=xL hlt;rw [hg] at hs;have hfi:=xE hin p;have hZ:∀q i,0≤(A5 (A5 (List.replicate X.length 0) (wN (c.take p))) ((AI g.wh g.kd).take q)).getD i 0∧(A5 (A5 (List.replicate X.length 0) (wN (c.take p))) ((AI g.wh g.kd).take q)).getD i 0≤1000:=fun q i=>by
   rw [CY _ _ (fun z hz=>by rw [Bp,List.length_replicate];exact hgi z (List.mem_of_mem_take hz)),CY _ _ (fun z hz=>by rw [List.length_replicate];exact hfi z hz),Dl];have h1:=Cu (wN (c.take p)) i;have h2:=Ai (wN (c.take p)) i;have h3:=Cu ((AI g.wh g.kd).take q) i;have h4:=Ai ((AI g.wh g.kd).take q) i;have h5:=hflt p;rw [List.length_take] at h3;omega
  have hZl:∀q,(A5 (A5 (List.replicate X.length 0) (wN (c.take p))) ((AI g.wh g.kd).take q)).length=X.length:=fun q=>by rw [Bp,Bp,List.length_replicate]
  obtain ⟨Z,hZe⟩:∃Z,A5 (List.replicate X.length 0) (wN (c.take p))=Z:=⟨_,rfl⟩;have hs2:A5 (List.replicate X.length 0) (wN (c.take (p+1)))=A5 Z (AI g.wh g.kd):=by rw [hs,xD,hZe]
  rw [hZe] at hZ hZl ⊢;obtain ⟨l,hl⟩:∃l,AI g.wh g.kd=l:=⟨_,rfl⟩;rw [hl] at CT hgi hl4 hl1 hZ hZl hs2;have CBf:0<p→∃d,G[ms.length+p-1]? =some d∧Uv g d=false:=fun h0=>by
   obtain ⟨q,rfl⟩:∃q,p=q+1:=⟨p-1,by omega⟩;refine ⟨c[q]'(by omega),?_,?_⟩
   ·rw [List.getElem?_eq_getElem (by omega)];exact congrArg some (hG1 q (by omega))
   ·rw [wU];have:=List.pairwise_iff_getElem.1 hA.sg q (q+1) (by omega) hlt (by omega);rw [hg] at this;have h2:=Gt (c[q]'(by omega)) g;simp;omega
  clear hfi hs hZe;by_cases h0:p=0
  ·subst h0;have e2:G[ms.length]'(by omega)=g:=e1;(have fa:=(And.intro e2 hgo);(repeat' first|refine zS CT ?_|refine zQ ?_|refine zN ?_;intro K hC hK|refine zM ?_;try clear hK hC K|refine zC ?_ ?_<;>intro hb|refine zK ?_;intro Jo JU JC AH AJ AG)<;>(try clear fa))
   have hZ0:A5 Z (l.take 0)=Z:=rfl;refine At (α:=Nat) (fun q=>[(2,I last),(4, .ref 0 0 0 0),(5, .ref 1 0 0 0),(7, .ref 2 0 0 0),(9,I ms.length),(10, .rsl 3 0 0 X.length),(11,I ((ms.length+0:Nat))),(12,AN true l),(13,I q)]) (fun q=>[(0, .arr 0 9 [AO s]),(1, .arr 0 2 [Cb false ⟨X,ms⟩]),(2, .arr 0 3 [Hi false ⟨fm,G,ms.length+j⟩]),(3, .arr 0 1 ((A5 Z (l.take q)).map I))])
    (fun q=>l.length-q) (fun q=>q≤l.length) [(0,0),(1,1),(2,2),(3,3)] [(0,0),(1,1),(2,2),(3,3)] 1 [2,4,5,7,9,10,11,12,13] 1900 zf zf 0 (Nat.zero_le _) (by (have fa:=hZ0;exact C8)) ?_
   rintro q hq J2 hcJ2 hJ2;by_cases hlq:q<l.length
   ·obtain ⟨z,hz⟩:∃z,l[q]=z:=⟨_,rfl⟩;have hzi:=hgi z (by rw [←hz];exact List.getElem_mem hlq);have ht:=D4 Z l hlq;have hYl:=hZl q;have hYb:=hZ q;obtain ⟨Y,hYe⟩:∃Y,A5 Z (l.take q)=Y:=⟨_,rfl⟩;rw [hYe,hz] at ht;rw [hYe] at hYl hYb;have A:=I3 (X:=Y) (z:=z) hzi.1 (by omega) (fun i=>by have:=hYb i;omega);have a1:=A.lt;have a2:=A.up;have a3:=A.st;rw [hYe];(have fa:=(And.intro hz (And.intro a2 a3));(repeat' first|refine zQ ?_|refine zN ?_;intro K hC hK|refine zM ?_;try clear hK hC K|refine zC ?_ ?_<;>intro hb|refine zK ?_;intro Jo JU JC AH AJ AG)<;>(try clear fa))
    exact hJ2 _ (q+1) (by omega) (by omega) (by (have fa:=ht;exact C8))
   ·obtain rfl:q=l.length:=by omega
    have hTl:l.take l.length=l:=List.take_length;rw [hTl];(repeat' first|refine zQ ?_|refine zN ?_;intro K hC hK|refine zM ?_;try clear hK hC K|refine zC ?_ ?_<;>intro hb|refine zK ?_;intro Jo JU JC AH AJ AG)
    exact hJ _ (0+1) (by omega) (by omega) (by (have fa:=hs2;exact C8))
  ·obtain ⟨d,hd,hdb⟩:=CBf (by omega);have CB:=Re g d;rw [hdb] at CB;obtain ⟨hd1,hd2⟩:=List.getElem?_eq_some_iff.1 hd;(have fa:=(And.intro e1 (And.intro hgo hd2));(repeat' first|refine zS CT ?_|refine zS CB ?_|refine zQ ?_|refine zN ?_;intro K hC hK|refine zM ?_;try clear hK hC K|refine zC ?_ ?_<;>intro hb|refine zK ?_;intro Jo JU JC AH AJ AG)<;>(try clear fa))
   have hZ0:A5 Z (l.take 0)=Z:=rfl;refine At (α:=Nat) (fun q=>[(2,I last),(4, .ref 0 0 0 0),(5, .ref 1 0 0 0),(7, .ref 2 0 0 0),(9,I ms.length),(10, .rsl 3 0 0 X.length),(11,I ((ms.length+p:Nat))),(12,AN true l),(13,I q)]) (fun q=>[(0, .arr 0 9 [AO s]),(1, .arr 0 2 [Cb false ⟨X,ms⟩]),(2, .arr 0 3 [Hi false ⟨fm,G,ms.length+j⟩]),(3, .arr 0 1 ((A5 Z (l.take q)).map I))])
    (fun q=>l.length-q) (fun q=>q≤l.length) [(0,0),(1,1),(2,2),(3,3)] [(0,0),(1,1),(2,2),(3,3)] 1 [2,4,5,7,9,10,11,12,13] 1900 zf zf 0 (Nat.zero_le _) (by (have fa:=hZ0;exact C8)) ?_
   rintro q hq J2 hcJ2 hJ2;by_cases hlq:q<l.length
   ·obtain ⟨z,hz⟩:∃z,l[q]=z:=⟨_,rfl⟩;have hzi:=hgi z (by rw [←hz];exact List.getElem_mem hlq);have ht:=D4 Z l hlq;have hYl:=hZl q;have hYb:=hZ q;obtain ⟨Y,hYe⟩:∃Y,A5 Z (l.take q)=Y:=⟨_,rfl⟩;rw [hYe,hz] at ht;rw [hYe] at hYl hYb;have A:=I3 (X:=Y) (z:=z) hzi.1 (by omega) (fun i=>by have:=hYb i;omega);have a1:=A.lt;have a2:=A.up;have a3:=A.st;rw [hYe];(have fa:=(And.intro hz (And.intro a2 a3));(repeat' first|refine zQ ?_|refine zN ?_;intro K hC hK|refine zM ?_;try clear hK hC K|refine zC ?_ ?_<;>intro hb|refine zK ?_;intro Jo JU JC AH AJ AG)<;>(try clear fa))
    exact hJ2 _ (q+1) (by omega) (by omega) (by (have fa:=ht;exact C8))
   ·obtain rfl:q=l.length:=by omega
    have hTl:l.take l.length=l:=List.take_length;rw [hTl];(repeat' first|refine zQ ?_|refine zN ?_;intro K hC hK|refine zM ?_;try clear hK hC K|refine zC ?_ ?_<;>intro hb|refine zK ?_;intro Jo JU JC AH AJ AG)
    exact hJ _ (p+1) (by omega) (by omega) (by (have fa:=hs2;exact C8))
 ·obtain rfl:p=c.length:=by omega
  have hE:A5 (List.replicate X.length 0) (wN (c.take c.length))=X:=by
   rw [List.take_length];refine Ue (by rw [Bp,List.length_replicate]) fun i=> ?_
   have h1:=xE hin c.length;rw [List.take_length] at h1;rw [CY _ _ (fun z hz=>by rw [List.length_replicate];exact h1 z hz),Dl];have h2:Cz (wN c) i=B7 c i:=O4 c i;rw [h2,hA.ct];omega
  have hEE:=Lb X X (by omega);rw [decide_eq_true rfl] at hEE;obtain ⟨g,hg⟩:∃g,c[j]=g:=⟨_,rfl⟩;have hgm:g∈c:=by rw [←hg];exact List.getElem_mem hj
  have e1:G[ms.length+j]'(by omega)=g:=by rw [hG1 j hj,hg]
  have e2:G[((ms.length:Int)+j).toNat]'(by omega)=g:=by
   have:((ms.length:Int)+j).toNat=ms.length+j:=by omega
   simp only [this];exact e1
  have CT:=Ep s g;rw [show BT s g.wh g.kd=AI g.wh g.kd by unfold BT;rw [if_pos ⟨hv,hw g hgm⟩]] at CT;have CI:=xP (AI g.wh g.kd) last (by have:=Bt g.wh g.kd;omega);have hb:((AI g.wh g.kd).any fun z=>z==(last:Int))=true:=by
   unfold M1 at hh;rw [List.getElem?_eq_getElem hj,hg] at hh;simp only [Bool.and_eq_true] at hh;exact hh.1
  rw [hb] at CI;rw [hE];have hTX:List.take X.length X=X:=List.take_length;(have fa:=(And.intro e1 (And.intro e2 hTX));(repeat' first|refine zS hEE ?_|refine zS CT ?_|refine zS CI ?_|refine zQ ?_|refine zN ?_;intro K hC hK|refine zM ?_;try clear hK hC K|refine zC ?_ ?_<;>intro hb|refine zK ?_;intro Jo JU JC AH AJ AG)<;>(try clear fa))
  refine Aa [] ?_ ?_<;>(first|exact AK|refine zE ?_)
set_option maxHeartbeats 2000000 in
theorem f7 (x:Int) (s:AL) (hv:AP s=0):Hn Tryz.prog 43 [.ref 0 0 0 0,AO s] (Af x) (fun a:List Fm×Nat×Int=> .rsl 1 a.2.1 0 a.1.length) (fun a=>[(0, .arr 0 1 [U a.2.2]),(1, .arr a.2.1 3 (a.1.map (DN false)))]) (fun a=>(∀f∈a.1,Az s f=0∧f.ks.length≤1000)∧1≤a.1.length∧a.1.length≤3):=by
 have CF:=fun x' =>Wr x' s hv
 have hsl:=(AU hv).su3;unfold Hn Af;refine DX ?_;have b1:=Av (x:=x) (n:=3) (by omega) (by omega);refine FL 1 Tryz.ntmps43 ?_;let tb:=fD;let lv:=Yt;(have fa:= @Af.eq_1;(repeat' first|refine zJ (tg [0]) (BI _ 3 (by omega)) ?_|refine zQ ?_|refine zN ?_;intro K hC hK|refine zM ?_;try clear hK hC K|refine zC ?_ ?_<;>intro hb|refine zK ?_;intro Jo JU JC AH AJ AG)<;>(try clear fa))
 generalize BC x 3=i0 at *;refine A8 (BY 5 500 0 3 (by rfl) (by rfl)) (α:=Int×List Fm×Nat×Int) (fun a=>[(0, .ref 0 0 0 0),(3, .ref 2 0 0 0),(5, .rsl 1 a.2.2.1 0 a.2.1.length),(6,I a.1)]) (fun a=>[(0, .arr 0 1 [U a.2.2.2]),(1, .arr a.2.2.1 3 (a.2.1.map (DN false))),(2, .arr 0 9 [AO s])])
  (fun a=>a.1.toNat) (fun a=>(0≤a.1∧a.1≤2)∧a.2.1.length+a.1≤2∧∀f∈a.2.1,Az s f=0∧f.ks.length≤1000) [(0,0),(500,1),(64,2)] [(0,0),(1,1),(2,2)] 0 [0,3,5,6] 900 zg zg (i0,[],0,AR x) ⟨by dsimp only;omega,by simp;omega,fun f hf=>by cases hf⟩ (by (have fa:=(And.intro @Dg.eq_1 (And.intro @Ci.eq_1 @Ci.eq_2));exact CZ)) ?_
 rintro ⟨i,l,g,x'⟩ ⟨k1,k2,k3⟩ J hcJ hJ;dsimp only at k1 k2 k3 hJ ⊢;by_cases hi:0<i
 ·(repeat' first|refine zQ ?_|refine zN ?_;intro K hC hK|refine zM ?_;try clear hK hC K|refine zC ?_ ?_<;>intro hb|refine zK ?_;intro Jo JU JC AH AJ AG)
  (have fa:= @Af.eq_1;refine zX (tg [0]) (CF _) ?_;clear AH AJ AG Jo JU JC;(try clear fa));intro xr hxr;have CC:=Hh s xr.1 (by omega) (by omega);by_cases he:Az s xr.1=0
  ·(repeat' first|refine zS CC ?_|refine zQ ?_|refine zN ?_;intro K hC hK|refine zM ?_;try clear hK hC K|refine zC ?_ ?_<;>intro hb|refine zK ?_;intro Jo JU JC AH AJ AG)
   refine hJ _ (i-1,l++[xr.1],g+1,xr.2) (by dsimp only;omega) ⟨by dsimp only;omega,by simp;omega,fun f hf=> ?_⟩ (by (have fa:= @List.length_append.{0};exact CZ));rcases List.mem_append.1 hf with hf|hf
   ·exact k3 f hf
   ·simp at hf;subst hf;exact ⟨he,hxr⟩
  ·(repeat' first|refine zS CC ?_|refine zQ ?_|refine zN ?_;intro K hC hK|refine zM ?_;try clear hK hC K|refine zC ?_ ?_<;>intro hb|refine zK ?_;intro Jo JU JC AH AJ AG)
   refine hJ _ (i-1,l,g,xr.2) (by dsimp only;omega) ⟨by dsimp only;omega,by dsimp only;omega,k3⟩ (by exact CZ)
 ·by_cases h0:l=[]
  ·subst h0;have b5:=Av (x:=x') (n:=1) (by omega) (by omega);have hm:BC x' 1=((0:Nat):Int):=by omega
   (have fa:=(And.intro @Af.eq_1 hm);(repeat' first|refine zJ (tg [0]) (BI x' 1 (by omega)) ?_|refine zQ ?_|refine zN ?_;intro K hC hK|refine zM ?_;try clear hK hC K|refine zC ?_ ?_<;>intro hb|refine zK ?_;intro Jo JU JC AH AJ AG)<;>(try clear fa))
   refine EH ?_;refine ⟨_,Wu (r:=1108) (es' :=[DN false ⟨1,[],false⟩]) (by rfl) (by rfl) (XM [] 0 (Nat.le_refl _)), .inr rfl,?_,[(0,0),(1108,1)],2,⟨by decide,by decide,by decide⟩,?_⟩<;>(first|exact AK|refine zE ?_);refine ⟨_, .rfl',([⟨1,[],false⟩],_,_),⟨fun f hf=> ?_,by simp,by simp⟩,rfl,rfl⟩;simp at hf;subst hf;exact ⟨I8 hv,by simp⟩
  ·have hpos:0<l.length:=List.length_pos_iff.2 h0;have b4:=Av (x:=x') (n:=4) (by omega) (by omega);by_cases h4:0<BC x' 4
   ·have CB:=BI (AR x') (l.length+1) (by omega);have b5:=Av (x:=AR x') (n:=l.length+1) (by omega) (by omega);obtain ⟨m,hm⟩:∃m:Nat,BC (AR x') (l.length+1)=(m:Int):=⟨(BC (AR x') (l.length+1)).toNat,by omega⟩;have hml:m≤l.length:=by omega
    have e13:(((m:Nat):Int)-0).toNat=m:=by omega
    have e14:min m l.length=m:=by omega
    have e16:List.take m (List.take m l)=l.take m:=by rw [List.take_take,Nat.min_self]
    have e18:List.take (l.length-m) (List.drop m l)=l.drop m:=List.take_of_length_le (by simp);have e19:List.take (m+1) ((l.take m).map (DN false)++[AV.agg [.v (.int .i64 1), .v (.slice none 0 0), .v (.bool false)]])=(l.take m).map (DN false)++[AV.agg [.v (.int .i64 1), .v (.slice none 0 0), .v (.bool false)]]:=List.take_of_length_le (by simp;omega);(have fa:=(And.intro @Af.eq_1 (And.intro hm (And.intro e13 (And.intro e14 (And.intro e16 (And.intro e18 (And.intro e19 Nat.min_self)))))));(repeat' first|refine zJ (tg [0]) (BI x' 4 (by omega)) ?_|refine zJ (tg [0]) CB ?_|refine zQ ?_|refine zN ?_;intro K hC hK|refine zM ?_;try clear hK hC K|refine zC ?_ ?_<;>intro hb|refine zK ?_;intro Jo JU JC AH AJ AG)<;>(try clear fa))
    have hlen:(l.take m++(⟨1,[],false⟩:Fm)::l.drop m).length=m+1+(l.length-m):=by simp;omega
    have hal:∀f∈l.take m++(⟨1,[],false⟩:Fm)::l.drop m,Az s f=0∧f.ks.length≤1000:=fun f hf=>by
     rcases List.mem_append.1 hf with hf|hf
     ·exact k3 f (List.mem_of_mem_take hf)
     ·rcases List.mem_cons.1 hf with rfl|hf
      ·exact ⟨I8 hv,by simp⟩
      ·exact k3 f (List.mem_of_mem_drop hf)
    have fi:=XM l m hml;obtain ⟨L,hL⟩:∃L,l.take m++(⟨1,[],false⟩:Fm)::l.drop m=L:=⟨_,rfl⟩;rw [hL] at hlen hal fi;have hT:L.take (m+1+(l.length-m))=L:=List.take_of_length_le (by omega);have hT2:m+1+(l.length-m)≤L.length:=by omega
    refine EH ?_;refine ⟨_,Wu (r:=1156) (es' :=L.map (DN false)) (by rfl) (by simp;omega) fi, .inr rfl,?_,[(0,0),(1156,1)],2,⟨by decide,by decide,by decide⟩,?_⟩<;>(have fa:=(And.intro hT hT2);first|exact AK|(refine zE ?_;try clear fa));exact ⟨_, .rfl',(L,_,_),⟨hal,by dsimp only;omega,by dsimp only;omega⟩,(by dsimp only;rw [hlen]),rfl⟩
   ·have hT:l.take l.length=l:=List.take_length;(have fa:= @Af.eq_1;(repeat' first|refine zJ (tg [0]) (BI x' 4 (by omega)) ?_|refine zQ ?_|refine zN ?_;intro K hC hK|refine zM ?_;try clear hK hC K|refine zC ?_ ?_<;>intro hb|refine zK ?_;intro Jo JU JC AH AJ AG)<;>(try clear fa))
    refine Aa [(0,0),(1,1)] ?_ ?_<;>(first|exact AK|refine zE ?_);exact ⟨_, .rfl',(l,g,_),⟨k3,hpos,by dsimp only;omega⟩,rfl,rfl⟩
set_option maxHeartbeats 8000000 in
theorem o0 (x:Int) (gf:Nat) (s:AL) (hM:Jn s) (fs:List Fm) (hf:∀f∈fs,Az s f=0∧f.ks.length≤1000) (h1:1≤fs.length) (h3:fs.length≤3):Hn Tryz.prog 85 [.ref 0 0 0 0,AO s, .rsl 1 gf 0 fs.length] [(0, .arr 0 1 [U x]),(1, .arr gf 3 (fs.map (DN false)))] (fun a:HR=> .agg [.rsl 2 a.g 0 (AQ s).toNat,AX false a.ms]) (fun a=>[(0, .arr 0 1 [U a.x]),(1, .arr gf 3 (fs.map (DN false))),(2, .arr a.g 1 (a.X.map I))]) (rW s (AQ s).toNat):=by
 have hv:=hM.ok;obtain ⟨p1,p2,p3,p4⟩:=A7 hv;have V:=AU hv;have hme:=V.me;have hco:=V.co;have CP:=Cm s (by have:=V.su3;omega);rw [p1] at CP;have b0:=Av (x:=x) (n:=fs.length) (by omega) (by omega);have CB:=BI x fs.length (by omega);obtain ⟨k,hk⟩:∃k,BC x fs.length=k:=⟨_,rfl⟩;rw [hk] at b0;have hkl:k.toNat<fs.length:=by omega
 obtain ⟨f,hfk⟩:∃f,fs[k.toNat]=f:=⟨_,rfl⟩;have hff:=hf f (by rw [←hfk];exact List.getElem_mem hkl);have CW:=jV (AR x) s hM f hff.1 hff.2;have CBu:=fun x' =>UF x' s hM
 have CFi:=fun x' h Mo hl hF=>XW x' s hM h Mo hl hF
 obtain ⟨P,hP⟩:∃P:Nat,AQ s=(P:Int):=⟨(AQ s).toNat,by omega⟩;rw [hP] at CP p3 p4 CW CBu CFi ⊢;simp only [Int.toNat_natCast] at CW CBu CFi ⊢;clear V;unfold Hn;refine DX ?_;refine FL 2 Tryz.ntmps85 ?_;let tb:=fB;let lv:=ZY;(have fa:=(And.intro @Af.eq_1 (And.intro hk (And.intro hfk @Ay)));(repeat' first|refine zJ (tg [0]) CB ?_|refine zQ ?_|refine zN ?_;intro K hC hK|refine zM ?_;try clear hK hC K|refine zC ?_ ?_<;>intro hb|refine zK ?_;intro Jo JU JC AH AJ AG)<;>(try clear fa))
 (have fa:= @Af.eq_1;refine r9 (tg [0]) (CW) ?_;clear AH AJ AG Jo JU JC;(try clear fa));intro xr hxr;have hXl:=hxr.xl;have hXy:=hxr.yes;obtain ⟨ms,X,ok,y⟩:=xr;dsimp only at hXl hXy ⊢;clear hxr;have hTX:X.take P=X:=List.take_of_length_le (by omega);have hTX2:P≤X.length:=by omega
 by_cases hg:ok=true∧¬BC y 6=0
 ·obtain ⟨rfl,h6⟩:=hg;have hfu:=hXy rfl;have ho:G5 s ⟨X,ms⟩:=DP (by unfold Am at hfu;simp at hfu;exact hfu.1);have hrg:=ho.rg;have hmm:=ho.mm;have hlo:=ho.lo;dsimp only at hrg hmm hlo;have CWo:=Oh (AR (AR y)) ⟨X,ms⟩ (by dsimp only;omega) (by dsimp only;omega) (fun z hz=>by have:=hrg z hz;omega) (by dsimp only;omega);by_cases h3:BC (AR y) 3=0
  ·(have fa:=(And.intro @Af.eq_1 (And.intro hTX (And.intro hTX2 @Ay)));(repeat' first|refine zJ (tg [0]) (Dt y 6 (by omega)) ?_|refine zJ (tg [0]) (Dt (AR y) 3 (by omega)) ?_|refine zQ ?_|refine zN ?_;intro K hC hK|refine zM ?_;try clear hK hC K|refine zC ?_ ?_<;>intro hb|refine zK ?_;intro Jo JU JC AH AJ AG)<;>(try clear fa))
   (have fa:=(And.intro @Af.eq_1 (And.intro hTX hTX2));refine jY (tg [0]) (CWo) ?_;clear AH AJ AG Jo JU JC;(try clear fa));intro xr hxr;obtain ⟨q1,q2⟩:=hxr;obtain ⟨i,y3⟩:=xr;dsimp only at q1 q2 ⊢;have hz4:=hrg (X.getD i 0) (by rw [List.getD_eq_getElem?_getD,List.getElem?_eq_getElem (by omega)];exact List.getElem_mem _);obtain ⟨X1,hX1⟩:∃X1,X.set i (X.getD i 0-1)=X1:=⟨_,rfl⟩;have hX1l:X1.length=P:=by rw [←hX1,List.length_set];omega
   have hX1b:∀j:Nat,-1000000000≤X1.getD j 0∧X1.getD j 0≤1000000000:=fun j=>by
    by_cases hj:j<X1.length
    ·have hm:X1.getD j 0∈X1:=by rw [List.getD_eq_getElem?_getD,List.getElem?_eq_getElem hj];exact List.getElem_mem _
     rw [←hX1] at hm;rcases List.mem_or_eq_of_mem_set hm with h|h
     ·have:=hrg _ h;rw [←hX1];omega
     ·rw [←hX1];omega
    ·rw [List.getD_eq_getElem?_getD,List.getElem?_eq_none (by omega)];simp
   rw [hX1];have bb:=Av (x:=y3) (n:=P) (by omega) (by omega);have CB2:=BI y3 P (by omega);obtain ⟨k2,hk2⟩:∃k2,BC y3 P=k2:=⟨_,rfl⟩;rw [hk2] at bb;have A:=I3 (X:=X1) (z:=k2) bb.1 (by omega) hX1b;have a1:=A.lt;have a2:=A.up;have a3:=A.st;have hX2l:=Cy X1 k2;obtain ⟨X2,hX2⟩:∃X2,Aq X1 k2=X2:=⟨_,rfl⟩;rw [hX2] at a3 hX2l;have hT2:X2.take X.length=X2:=List.take_of_length_le (by omega);have hT3:X.length≤X2.length:=by omega
   have CFu:=Fo s ⟨X2,ms⟩ (by dsimp only;omega) (by dsimp only;omega);rw [hXl];rw [hXl] at hT2 hT3;cases hfu2:Am s ⟨X2,ms⟩ with
  |true =>
    rw [hfu2] at CFu;(have fa:=(And.intro @Af.eq_1 (And.intro hk2 (And.intro a2 (And.intro a3 (And.intro hT2 hT3)))));(repeat' first|refine zS CP ?_|refine zJ (tg [0]) CB2 ?_|refine zS CFu ?_|refine zQ ?_|refine zN ?_;intro K hC hK|refine zM ?_;try clear hK hC K|refine zC ?_ ?_<;>intro hb|refine zK ?_;intro Jo JU JC AH AJ AG)<;>(try clear fa))
    refine Aa [(0,0),(1,1),(1281,2)] ?_ ?_<;>(first|exact AK|refine zE ?_);exact ⟨_,An.agg (by (repeat first|exact EO.nil|refine GQ ?_)),⟨ms,X2,1,AR y3⟩,⟨by dsimp only;omega,hfu2⟩,rfl,rfl⟩
  |false =>
    rw [hfu2] at CFu;(have fa:=(And.intro @Af.eq_1 (And.intro hk2 (And.intro a2 (And.intro a3 (And.intro hT2 hT3)))));(repeat' first|refine zS CP ?_|refine zJ (tg [0]) CB2 ?_|refine zS CFu ?_|refine zQ ?_|refine zN ?_;intro K hC hK|refine zM ?_;try clear hK hC K|refine zC ?_ ?_<;>intro hb|refine zK ?_;intro Jo JU JC AH AJ AG)<;>(try clear fa))
    refine Aa [(0,0),(1,1),(241,2)] ?_ ?_<;>(first|exact AK|refine zE ?_);exact ⟨_,An.agg (by (repeat first|exact EO.nil|refine GQ ?_)),⟨ms,X,0,AR y3⟩,⟨hXl,hfu⟩,rfl,rfl⟩
  ·(have fa:=(And.intro @Af.eq_1 @Ay);(repeat' first|refine zJ (tg [0]) (Dt y 6 (by omega)) ?_|refine zJ (tg [0]) (Dt (AR y) 3 (by omega)) ?_|refine zQ ?_|refine zN ?_;intro K hC hK|refine zM ?_;try clear hK hC K|refine zC ?_ ?_<;>intro hb|refine zK ?_;intro Jo JU JC AH AJ AG)<;>(try clear fa))
   refine Aa [(0,0),(1,1),(241,2)] ?_ ?_<;>(first|exact AK|refine zE ?_);exact ⟨_,An.agg (by (repeat first|exact EO.nil|refine GQ ?_)),⟨ms,X,0,AR (AR y)⟩,⟨hXl,hfu⟩,rfl,rfl⟩
 ·cases ok with
 |false =>
   (repeat' first|refine zQ ?_|refine zN ?_;intro K hC hK|refine zM ?_;try clear hK hC K|refine zC ?_ ?_<;>intro hb|refine zK ?_;intro Jo JU JC AH AJ AG)
   (have fa:= @Af.eq_1;refine zX (tg [0]) (CBu y) ?_;clear AH AJ AG Jo JU JC;(try clear fa));intro xr hxr;obtain ⟨Mo,Y2,F2⟩:=hxr.fi;have hX2:=F2.xl;have CF2:=CFi xr.x ⟨xr.X,xr.ms⟩ Mo (by dsimp only;omega) ⟨P,xr.X,Y2,rfl,F2⟩;have hTZ:xr.X.take P=xr.X:=List.take_of_length_le (by omega);have hTZ2:P≤xr.X.length:=by omega
   clear hxr;obtain ⟨ms2,gl2,X2,ok2,y2⟩:=xr;dsimp only at Mo F2 hX2 CF2 hTZ hTZ2 ⊢;(have fa:=(And.intro hTZ hTZ2);(repeat' first|refine zQ ?_|refine zN ?_;intro K hC hK|refine zM ?_;try clear hK hC K|refine zC ?_ ?_<;>intro hb|refine zK ?_;intro Jo JU JC AH AJ AG)<;>(try clear fa))
   (have fa:=(And.intro @Af.eq_1 (And.intro hTZ hTZ2));refine jY (tg [0]) (CF2) ?_;clear AH AJ AG Jo JU JC;(try clear fa));intro xr hxr;(repeat' first|refine zQ ?_|refine zN ?_;intro K hC hK|refine zM ?_;try clear hK hC K|refine zC ?_ ?_<;>intro hb|refine zK ?_;intro Jo JU JC AH AJ AG)
   refine Aa [(0,0),(1,1),(1361,2)] ?_ ?_<;>(first|exact AK|refine zE ?_);exact ⟨_,An.agg (by (repeat first|exact EO.nil|refine GQ ?_)),⟨ms2,xr.1,0,xr.2⟩,⟨hxr.2,hxr.1⟩,rfl,rfl⟩
 |true =>
   have h6:BC y 6=0:=by
    by_cases h6:BC y 6=0
    ·exact h6
    ·exact absurd ⟨rfl,h6⟩ hg
   (have fa:=(And.intro @Af.eq_1 @Ay);(repeat' first|refine zJ (tg [0]) (Dt y 6 (by omega)) ?_|refine zQ ?_|refine zN ?_;intro K hC hK|refine zM ?_;try clear hK hC K|refine zC ?_ ?_<;>intro hb|refine zK ?_;intro Jo JU JC AH AJ AG)<;>(try clear fa))
   (have fa:= @Af.eq_1;refine zX (tg [0]) (CBu (AR y)) ?_;clear AH AJ AG Jo JU JC;(try clear fa));intro xr hxr;obtain ⟨Mo,Y2,F2⟩:=hxr.fi;have hX2:=F2.xl;have CF2:=CFi xr.x ⟨xr.X,xr.ms⟩ Mo (by dsimp only;omega) ⟨P,xr.X,Y2,rfl,F2⟩;have hTZ:xr.X.take P=xr.X:=List.take_of_length_le (by omega);have hTZ2:P≤xr.X.length:=by omega
   clear hxr;obtain ⟨ms2,gl2,X2,ok2,y2⟩:=xr;dsimp only at Mo F2 hX2 CF2 hTZ hTZ2 ⊢;(have fa:=(And.intro hTZ hTZ2);(repeat' first|refine zQ ?_|refine zN ?_;intro K hC hK|refine zM ?_;try clear hK hC K|refine zC ?_ ?_<;>intro hb|refine zK ?_;intro Jo JU JC AH AJ AG)<;>(try clear fa))
   (have fa:=(And.intro @Af.eq_1 (And.intro hTZ hTZ2));refine jY (tg [0]) (CF2) ?_;clear AH AJ AG Jo JU JC;(try clear fa));intro xr hxr;(repeat' first|refine zQ ?_|refine zN ?_;intro K hC hK|refine zM ?_;try clear hK hC K|refine zC ?_ ?_<;>intro hb|refine zK ?_;intro Jo JU JC AH AJ AG)
   refine Aa [(0,0),(1,1),(1393,2)] ?_ ?_<;>(first|exact AK|refine zE ?_);exact ⟨_,An.agg (by (repeat first|exact EO.nil|refine GQ ?_)),⟨ms2,xr.1,0,xr.2⟩,⟨hxr.2,hxr.1⟩,rfl,rfl⟩
set_option maxHeartbeats 8000000 in
theorem xF (zs:List Int) (hz:zs.length≤9223372036854775807):Hn Tryz.prog 25 [AN false zs] [] (fun a:SR×Nat=> .tup [.ref 0 0 0 0,AO a.1.s, .rsl 2 a.2 0 a.1.fs.length, .agg [.rsl 1 a.1.g 0 a.1.X.length,AX false a.1.ms]]) (fun a=>[(0, .arr 0 1 [U a.1.x]),(1, .arr a.1.g 1 (a.1.X.map I)),(2, .arr a.2 3 (a.1.fs.map (DN false)))]) (fun a=>jK a.1):=by
 have CN:Hn Tryz.prog 44 [AN false zs] [] (fun _:Int=> .ref 0 0 0 0) (fun x=>Af x) (fun _=>True):=EE (PK zs hz) fun v hl=>by
  rintro ⟨x,rfl,rfl⟩;exact ⟨x,trivial,rfl,rfl⟩
 unfold Hn;refine DX ?_;refine zb Tryz.ntmps25 ?_;let tb:=fV;let lv:=ZZ;(repeat' first|refine zQ ?_|refine zN ?_;intro K hC hK|refine zM ?_;try clear hK hC K|refine zC ?_ ?_<;>intro hb|refine zK ?_;intro Jo JU JC AH AJ AG)
 (have fa:= @Af.eq_1;refine zX (tg []) (CN) ?_;clear AH AJ AG Jo JU JC;(try clear fa));intro xr hxr;(repeat' first|refine zQ ?_|refine zN ?_;intro K hC hK|refine zM ?_;try clear hK hC K|refine zC ?_ ?_<;>intro hb|refine zK ?_;intro Jo JU JC AH AJ AG)
 (have fa:= @Af.eq_1;refine zX (tg [80]) (aQ xr) ?_;clear AH AJ AG Jo JU JC;(try clear fa));intro xr hxr;obtain ⟨s,x1⟩:=xr;dsimp only at hxr ⊢;have hM:=hxr;clear hxr;have b5:=Av (x:=x1) (n:=5) (by omega) (by omega);by_cases h5:BC x1 5=0
 ·have b3:=Av (x:=AR x1) (n:=3) (by omega) (by omega);have CL:=Qk (AR (AR x1)) (1+BC (AR x1) 3) (by omega);(have fa:= @Af.eq_1;(repeat' first|refine zJ (tg [80]) (Dt x1 5 (by omega)) ?_|refine zJ (tg [80]) (EC (AR x1) 1 3 (by omega) (by omega) (by omega)) ?_|refine zQ ?_|refine zN ?_;intro K hC hK|refine zM ?_;try clear hK hC K|refine zC ?_ ?_<;>intro hb|refine zK ?_;intro Jo JU JC AH AJ AG)<;>(try clear fa))
  (have fa:= @Af.eq_1;refine zX (tg [80]) (CL) ?_;clear AH AJ AG Jo JU JC;(try clear fa));intro xr hxr;obtain ⟨s2,x2⟩:=xr;dsimp only at hxr ⊢;have hM2:Jn s2:=⟨hxr.2,hxr.1.fl.2⟩;clear hxr;(repeat' first|refine zQ ?_|refine zN ?_;intro K hC hK|refine zM ?_;try clear hK hC K|refine zC ?_ ?_<;>intro hb|refine zK ?_;intro Jo JU JC AH AJ AG)
  (have fa:= @Af.eq_1;refine zX (tg [80]) (f7 x2 s2 hM2.ok) ?_;clear AH AJ AG Jo JU JC;(try clear fa));intro xr hxr;obtain ⟨fs,gf,x3⟩:=xr;obtain ⟨q1,q2,q3⟩:=hxr;dsimp only at q1 q2 q3 ⊢;(have fa:= @Ay;(repeat' first|refine zQ ?_|refine zN ?_;intro K hC hK|refine zM ?_;try clear hK hC K|refine zC ?_ ?_<;>intro hb|refine zK ?_;intro Jo JU JC AH AJ AG)<;>(try clear fa))
  (have fa:= @Af.eq_1;refine r9 (tg [80,321]) (o0 x3 gf s2 hM2 fs q1 q2 q3) ?_;clear AH AJ AG Jo JU JC;(try clear fa));intro xr hxr;(repeat' first|refine zQ ?_|refine zN ?_;intro K hC hK|refine zM ?_;try clear hK hC K|refine zC ?_ ?_<;>intro hb|refine zK ?_;intro Jo JU JC AH AJ AG)
  have hxl:=hxr.xl;have hpl:=(A7 (s:=s2) hM2.ok).2.2.1;refine Aa [(80,0),(450,1),(321,2)] ?_ ?_<;>(first|exact AK|refine zE ?_);refine ⟨_, .rfl',(⟨xr.x,s2,fs,xr.ms,xr.X,xr.g⟩,gf),⟨hM2,q1,q2,q3,by dsimp only;omega,hxr.full⟩,?_,rfl⟩;rw [hxl]
 ·(have fa:= @Af.eq_1;(repeat' first|refine zJ (tg [80]) (Dt x1 5 (by omega)) ?_|refine zQ ?_|refine zN ?_;intro K hC hK|refine zM ?_;try clear hK hC K|refine zC ?_ ?_<;>intro hb|refine zK ?_;intro Jo JU JC AH AJ AG)<;>(try clear fa))
  (have fa:= @Af.eq_1;refine zX (tg [80]) (f7 (AR x1) s hM.ok) ?_;clear AH AJ AG Jo JU JC;(try clear fa));intro xr hxr;obtain ⟨fs,gf,x3⟩:=xr;obtain ⟨q1,q2,q3⟩:=hxr;dsimp only at q1 q2 q3 ⊢;(have fa:= @Ay;(repeat' first|refine zQ ?_|refine zN ?_;intro K hC hK|refine zM ?_;try clear hK hC K|refine zC ?_ ?_<;>intro hb|refine zK ?_;intro Jo JU JC AH AJ AG)<;>(try clear fa))
  (have fa:= @Af.eq_1;refine r9 (tg [80,241]) (o0 x3 gf s hM fs q1 q2 q3) ?_;clear AH AJ AG Jo JU JC;(try clear fa));intro xr hxr;(repeat' first|refine zQ ?_|refine zN ?_;intro K hC hK|refine zM ?_;try clear hK hC K|refine zC ?_ ?_<;>intro hb|refine zK ?_;intro Jo JU JC AH AJ AG)
  have hxl:=hxr.xl;have hpl:=(A7 (s:=s) hM.ok).2.2.1;refine Aa [(80,0),(370,1),(241,2)] ?_ ?_<;>(first|exact AK|refine zE ?_);refine ⟨_, .rfl',(⟨xr.x,s,fs,xr.ms,xr.X,xr.g⟩,gf),⟨hM,q1,q2,q3,by dsimp only;omega,hxr.full⟩,?_,rfl⟩;rw [hxl]
theorem f8 {x y:Rg} (h:yJ y x) (h1:x.gs.length≤1000000) (h2:y.gs.length≤1000000):AM Tryz.prog 60 [Hi false x,Hi false y] (B true):=by
 have CC:=l4 x.gs y.gs h1 h2;have hs:=i8 x.gs y.gs;have hw:=Dy x.gs y.gs;have hr:=Ez x.gs;obtain ⟨d,hd⟩:∃d,A1 x.gs y.gs=d:=⟨_,rfl⟩;rw [hd] at CC hs;have hx:y.fm<x.fm∨(y.fm=x.fm∧(0<d∨(d=0∧y.at_<x.at_))):=by
  rcases h with h|⟨h,h2|⟨h2,h3⟩⟩
  ·exact .inl h
  ·exact .inr ⟨h, .inl (hs.2.2 (by omega))⟩
  ·exact .inr ⟨h, .inr ⟨hs.1.2 (by rw [h2];exact hr),h3⟩⟩
 clear h hs hw hr hd;obtain ⟨xf,xg,xa⟩:=x;obtain ⟨yf,yg,ya⟩:=y;dsimp only at CC hx h1 h2;rcases hx with hx|⟨rfl,hx|⟨rfl,hx⟩⟩
 ·refine zb Tryz.ntmps60 ?_;let tb:=wR;let lv:=o7;(repeat' first|refine zQ ?_|refine zN ?_;intro K hC hK|refine zM ?_;try clear hK hC K|refine zC ?_ ?_<;>intro hb|refine zK ?_;intro Jo JU JC AH AJ AG)
  refine Aa [] ?_ ?_<;>(first|exact AK|refine zE ?_);simp;omega
 ·refine zb Tryz.ntmps60 ?_;let tb:=wR;let lv:=o7;(have fa:= @bne_self_eq_false.{0};(repeat' first|refine zS CC ?_|refine zQ ?_|refine zN ?_;intro K hC hK|refine zM ?_;try clear hK hC K|refine zC ?_ ?_<;>intro hb|refine zK ?_;intro Jo JU JC AH AJ AG)<;>(try clear fa))
  refine Aa [] ?_ ?_<;>(first|exact AK|refine zE ?_);simp;omega
 ·refine zb Tryz.ntmps60 ?_;let tb:=wR;let lv:=o7;(have fa:= @bne_self_eq_false.{0};(repeat' first|refine zS CC ?_|refine zQ ?_|refine zN ?_;intro K hC hK|refine zM ?_;try clear hK hC K|refine zC ?_ ?_<;>intro hb|refine zK ?_;intro Jo JU JC AH AJ AG)<;>(try clear fa))
  refine Aa [] ?_ ?_<;>(first|exact AK|refine zE ?_);simp;omega
theorem wW {L:List Rg} {r:Rg} (h:r∈L):yI L r=true:=by
 unfold yI;rw [List.any_eq_true];exact ⟨r,h,by unfold o6;simp⟩
theorem wV {t:AL} {X:List Int} {ms:List Gp} {L:List Fm} {z:Nat} (hL:A6 t L=0) (hU:Am t ⟨X,ms⟩=true) (hxl:(X.length:Int)=AQ t) (hpl:X.length≤1000) (hml:ms.length≤100) :
  ∀r∈Mz t L ⟨X,ms⟩ z,(0≤r.fm∧r.fm<L.length)∧AM Tryz.prog 59 [AO t,Cb false ⟨X,ms⟩,I z,Hi false r] (B true):=fun r hr=>by
 obtain ⟨k,f,c,j,e1,e2,e3,e4,e5⟩:=xI r hr;obtain ⟨hk,hf⟩:=List.getElem?_eq_some_iff.1 e1;have F:=Ht hL;have hfm:f∈L:=by rw [←hf];exact List.getElem_mem hk
 have A:=(x6 (F.2.2 f hfm) hU).2 c e2;obtain ⟨w0,w1,w2⟩:=(Nm (F.2.2 f hfm) hU).w c e2;have CW:=wQ (fm:=(k:Int)) F.1 A w2 (fun g hg=>Gc F.1 hxl.symm (w2 g hg)) w1 hml hpl e3 e4;rw [e5];exact ⟨by dsimp only;omega,CW⟩
set_option maxHeartbeats 16000000 in
theorem wM (nums:List Int) (which:Int) (hn:nums.length≤9223372036854775807):AM Tryz.prog 13 [AN false nums,I which] (B true):=by
 refine zb Tryz.ntmps13 ?_;let tb:=yB;let lv:=xT;(repeat' first|refine zQ ?_|refine zN ?_;intro K hC hK|refine zM ?_;try clear hK hC K|refine zC ?_ ?_<;>intro hb|refine zK ?_;intro Jo JU JC AH AJ AG)
 (refine zX (tg []) (xF nums hn) ?_;clear AH AJ AG Jo JU JC);intro xr hxr;have V:=hxr.made.ok;have hxl:=hxr.xl;have hpl:=(A7 V).2.2.2;have hfull:=hxr.full;have hfo:=hxr.fo;have hf1:=hxr.f1;have hf3:=hxr.f3;obtain ⟨⟨y,t,fs,ms,X,g0⟩,gf⟩:=xr;dsimp only at V hxl hpl hfull hfo hf1 hf3 ⊢;have hhe:Ag t ⟨X,ms⟩=0:=by unfold Am at hfull;simp at hfull;exact hfull.1
 have ho:G5 t ⟨X,ms⟩:=DP hhe;have hmm:=ho.mm;have hlo:=ho.lo;have hme:=(AU V).me;have hsu3:=(AU V).su3;dsimp only at hmm hlo;have hTX:List.take X.length X=X:=List.take_length;have hX0:0<X.length:=by
  rcases Nat.eq_zero_or_pos X.length with h|h
  ·have:X=[]:=List.eq_nil_of_length_eq_zero h;rw [this] at hlo;simp at hlo;omega
  ·exact h
 obtain ⟨w3,hw3⟩:∃w,IntKind.i64.wrap (which.tdiv 3)=w:=⟨_,rfl⟩;have CI:=w8 w3 X.length (by omega) (by omega);obtain ⟨z,hz,hzl⟩:∃z:Nat,w3 % (X.length:Int)=z∧z<X.length:=by
  have h0:=Int.emod_nonneg w3 (b:=(X.length:Int)) (by omega);have h1:=Int.emod_lt_of_pos w3 (b:=(X.length:Int)) (by omega);exact ⟨(w3 % (X.length:Int)).toNat,by omega,by omega⟩
 rw [hz] at CI;have CTo:=fZ t ⟨X,ms⟩ (by dsimp only;omega) (by dsimp only;omega);rw [show M9 t ⟨X,ms⟩=Bi X ms by unfold M9;rw [if_pos hhe]] at CTo;have hTl:(Bi X ms).length=X.length:=DV _ _;clear hxr;by_cases h3:which.tmod 3=0
 ·obtain ⟨f0,hf0⟩:∃f,fs[0]'(by omega)=f:=⟨_,rfl⟩;have hLo:∀f∈fs++[f0],Az t f=0∧f.ks.length≤1000:=fun f hf=>by
   rcases List.mem_append.1 hf with h|h
   ·exact hfo f h
   ·simp at h;subst h;exact hfo _ (by rw [←hf0];exact List.getElem_mem _)
  have hLl:(fs++[f0]).length=fs.length+1:=by simp
  obtain ⟨L,hL⟩:∃L,fs++[f0]=L:=⟨_,rfl⟩;rw [hL] at hLo hLl;have hk0:∀g∈L,g.ks.length≤1000000:=fun g hg=>by have:=(hLo g hg).2;omega
  have hff:A6 t (L)=0:=k8 V (by omega) (by omega) fun f hf=>(hLo f hf).1
  have S:FM t (L) ⟨X,ms⟩:=⟨hk0,by omega,by omega,by dsimp only;omega,by dsimp only;omega⟩;have P1:=A3 z S;obtain ⟨p1,p2⟩:=SA (s:=t) (l:=L) (h:=⟨X,ms⟩) z (by omega) (by dsimp only;omega);have hrd:=wV (z:=z) hff hfull hxl (by omega) (by omega);have hup:=wP (s:=t) (l:=L) (h:=⟨X,ms⟩) (last:=z) hff hfull;have hsome:=l3 (s:=t) (l:=L) (h:=⟨X,ms⟩) (k:=z);have qPI:=fun r=>wL (s:=t) (l:=L) (h:=⟨X,ms⟩) r z S (by omega) (by dsimp only;omega)
  obtain ⟨RR,hRR⟩:∃RR,Mz t (L) ⟨X,ms⟩ z=RR:=⟨_,rfl⟩;rw [hRR] at P1 p1 p2 hrd hup hsome;simp only [hRR] at qPI;clear hRR;obtain ⟨v,hv⟩:∃v,X[z]=v:=⟨_,rfl⟩;have hbz:RR.length=0∨¬v=0:=by
   rcases Nat.eq_zero_or_pos RR.length with h|h
   ·exact .inl h
   ·refine .inr fun e=>hsome h ?_
    dsimp only;rw [List.getD_eq_getElem?_getD,List.getElem?_eq_getElem hzl,hv,e];rfl
  have hTL:List.take (fs.length+1) (L)=L:=List.take_of_length_le (by omega);have hLe:fs.length+1≤(L).length:=by omega
  clear hsome hk0 hff S hfo;(have fa:=(And.intro hTX (And.intro h3 (And.intro hf0 (And.intro hL (And.intro @Ay (And.intro hw3 (And.intro hTL (And.intro hLe (And.intro hv (And.intro hTl @bne_self_eq_false.{0}))))))))));(repeat' first|refine zS CI ?_|refine zS P1 ?_|refine zS CTo ?_|refine zQ ?_|refine zN ?_;intro K hC hK|refine zM ?_;try clear hK hC K|refine zC ?_ ?_<;>intro hb|refine zK ?_;intro Jo JU JC AH AJ AG)<;>(try clear fa))
  all_goals
   refine Ab RR.length (fun i σ=>σ=⟨900,[(6, .ref 0 0 0 0),(7, .sl true 3 ((L).map (DN false))),(8, .ref 1 0 0 0),(9,I z),(10,N0 true RR),(11,I i)],[(0, .arr 0 9 [AO t]),(1, .arr 0 2 [.agg [AN true X,AX false ms]])]⟩) [(128,0),(144,1)] [(0,0),(1,1)] 1 [6,7,8,9,10,11] 900 zf zf (by (have fa:=(And.intro hTX (And.intro hTL hLe));exact zV)) ?_;rintro i σ' hi rfl J hcJ hJ;by_cases hlt:i<RR.length
   ·obtain ⟨r,hr⟩:∃r,RR[i]=r:=⟨_,rfl⟩;have hrm:r∈RR:=by rw [←hr];exact List.getElem_mem hlt
    obtain ⟨⟨f1,f2⟩,CW⟩:=hrd r hrm;have CS:=qPI r;rw [wW hrm] at CS;clear hb;by_cases h0:i=0
    ·subst h0;(have fa:=(And.intro hr (And.intro hTX hTL));(repeat' first|refine zS CW ?_|refine zS CS ?_|refine zQ ?_|refine zN ?_;intro K hC hK|refine zM ?_;try clear hK hC K|refine zC ?_ ?_<;>intro hb|refine zK ?_;intro Jo JU JC AH AJ AG)<;>(try clear fa))
     exact hJ _ hlt (by (have fa:=(And.intro hTX hTL);exact zV))
    ·obtain ⟨q,hq⟩:∃q,RR[i-1]'(by omega)=q:=⟨_,rfl⟩;have hA:=List.pairwise_iff_getElem.1 hup (i-1) i (by omega) hlt (by omega);rw [hr,hq] at hA;have CA:=f8 hA (p2 r hrm) (p2 q (by rw [←hq];exact List.getElem_mem _));have hq2:RR[((i:Int)-1).toNat]'(by omega)=q:=by
      have:((i:Int)-1).toNat=i-1:=by omega
      simp only [this];exact hq
     (have fa:=(And.intro hr (And.intro hq (And.intro hq2 (And.intro hTX hTL))));(repeat' first|refine zS CW ?_|refine zS CA ?_|refine zS CS ?_|refine zQ ?_|refine zN ?_;intro K hC hK|refine zM ?_;try clear hK hC K|refine zC ?_ ?_<;>intro hb|refine zK ?_;intro Jo JU JC AH AJ AG)<;>(try clear fa))
     exact hJ _ hlt (by (have fa:=(And.intro hTX hTL);exact zV))
   ·obtain rfl:i=RR.length:=by omega
    (repeat' first|refine zS Gy ?_|refine zQ ?_|refine zN ?_;intro K hC hK|refine zM ?_;try clear hK hC K|refine zC ?_ ?_<;>intro hb|refine zK ?_;intro Jo JU JC AH AJ AG)
    refine Aa [] ?_ ?_<;>(first|exact AK|refine zE ?_)
 ·have hLo:=hfo;have hk0:∀g∈fs,g.ks.length≤1000000:=fun g hg=>by have:=(hLo g hg).2;omega
  have hff:A6 t (fs)=0:=k8 V (by omega) (by omega) fun f hf=>(hLo f hf).1
  have S:FM t (fs) ⟨X,ms⟩:=⟨hk0,by omega,by omega,by dsimp only;omega,by dsimp only;omega⟩;have P1:=A3 z S;obtain ⟨p1,p2⟩:=SA (s:=t) (l:=fs) (h:=⟨X,ms⟩) z (by omega) (by dsimp only;omega);have hrd:=wV (z:=z) hff hfull hxl (by omega) (by omega);have hup:=wP (s:=t) (l:=fs) (h:=⟨X,ms⟩) (last:=z) hff hfull;have hsome:=l3 (s:=t) (l:=fs) (h:=⟨X,ms⟩) (k:=z);have qPI:=fun r=>wL (s:=t) (l:=fs) (h:=⟨X,ms⟩) r z S (by omega) (by dsimp only;omega)
  obtain ⟨RR,hRR⟩:∃RR,Mz t (fs) ⟨X,ms⟩ z=RR:=⟨_,rfl⟩;rw [hRR] at P1 p1 p2 hrd hup hsome;simp only [hRR] at qPI;clear hRR;obtain ⟨v,hv⟩:∃v,X[z]=v:=⟨_,rfl⟩;have hbz:RR.length=0∨¬v=0:=by
   rcases Nat.eq_zero_or_pos RR.length with h|h
   ·exact .inl h
   ·refine .inr fun e=>hsome h ?_
    dsimp only;rw [List.getD_eq_getElem?_getD,List.getElem?_eq_getElem hzl,hv,e];rfl
  have hTL:List.take (fs.length) (fs)=fs:=List.take_of_length_le (by omega);have hLe:fs.length≤(fs).length:=by omega
  clear hsome hk0 hff S hfo;(have fa:=(And.intro hTX (And.intro hw3 (And.intro hTL (And.intro hLe (And.intro hv (And.intro hTl @bne_self_eq_false.{0}))))));(repeat' first|refine zS CI ?_|refine zS P1 ?_|refine zS CTo ?_|refine zQ ?_|refine zN ?_;intro K hC hK|refine zM ?_;try clear hK hC K|refine zC ?_ ?_<;>intro hb|refine zK ?_;intro Jo JU JC AH AJ AG)<;>(try clear fa))
  all_goals
   refine Ab RR.length (fun i σ=>σ=⟨900,[(6, .ref 0 0 0 0),(7, .sl true 3 ((fs).map (DN false))),(8, .ref 1 0 0 0),(9,I z),(10,N0 true RR),(11,I i)],[(0, .arr 0 9 [AO t]),(1, .arr 0 2 [.agg [AN true X,AX false ms]])]⟩) [(128,0),(144,1)] [(0,0),(1,1)] 1 [6,7,8,9,10,11] 900 zf zf (by (have fa:=(And.intro hTX (And.intro hTL hLe));exact zV)) ?_;rintro i σ' hi rfl J hcJ hJ;by_cases hlt:i<RR.length
   ·obtain ⟨r,hr⟩:∃r,RR[i]=r:=⟨_,rfl⟩;have hrm:r∈RR:=by rw [←hr];exact List.getElem_mem hlt
    obtain ⟨⟨f1,f2⟩,CW⟩:=hrd r hrm;have CS:=qPI r;rw [wW hrm] at CS;clear hb;by_cases h0:i=0
    ·subst h0;(have fa:=(And.intro hr (And.intro hTX hTL));(repeat' first|refine zS CW ?_|refine zS CS ?_|refine zQ ?_|refine zN ?_;intro K hC hK|refine zM ?_;try clear hK hC K|refine zC ?_ ?_<;>intro hb|refine zK ?_;intro Jo JU JC AH AJ AG)<;>(try clear fa))
     exact hJ _ hlt (by (have fa:=(And.intro hTX hTL);exact zV))
    ·obtain ⟨q,hq⟩:∃q,RR[i-1]'(by omega)=q:=⟨_,rfl⟩;have hA:=List.pairwise_iff_getElem.1 hup (i-1) i (by omega) hlt (by omega);rw [hr,hq] at hA;have CA:=f8 hA (p2 r hrm) (p2 q (by rw [←hq];exact List.getElem_mem _));have hq2:RR[((i:Int)-1).toNat]'(by omega)=q:=by
      have:((i:Int)-1).toNat=i-1:=by omega
      simp only [this];exact hq
     (have fa:=(And.intro hr (And.intro hq (And.intro hq2 (And.intro hTX hTL))));(repeat' first|refine zS CW ?_|refine zS CA ?_|refine zS CS ?_|refine zQ ?_|refine zN ?_;intro K hC hK|refine zM ?_;try clear hK hC K|refine zC ?_ ?_<;>intro hb|refine zK ?_;intro Jo JU JC AH AJ AG)<;>(try clear fa))
     exact hJ _ hlt (by (have fa:=(And.intro hTX hTL);exact zV))
   ·obtain rfl:i=RR.length:=by omega
    (repeat' first|refine zS Gy ?_|refine zQ ?_|refine zN ?_;intro K hC hK|refine zM ?_;try clear hK hC K|refine zC ?_ ?_<;>intro hb|refine zK ?_;intro Jo JU JC AH AJ AG)
    refine Aa [] ?_ ?_<;>(first|exact AK|refine zE ?_)
theorem Pl (v0:Value) (nums:List Int) (which:Int) (W:World) (w0:BO W v0 nums) (_x0:∀z∈nums,(Lit.int .i64 z).wf=true) (_w1:(Lit.int .i64 which).wf=true) :
  Calls Tryz.prog 13 #[v0, .int .i64 which] W (OF W (.bool true)):=by
 refine T0 (wM nums which (NA w0)) ⟨rfl,fun i x y hx hy=> ?_⟩;match i,hx,hy with
|0,hx,hy=>simp at hx hy;subst hx hy;exact ER w0
|1,hx,hy=>simp at hx hy;subst hx hy;exact .v _
|n+2,hx,hy=>simp at hx
end Go.Proofs.YthblfhgofopcaaaGreat
