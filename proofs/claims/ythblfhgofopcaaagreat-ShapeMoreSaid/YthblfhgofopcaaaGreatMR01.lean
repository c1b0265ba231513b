/-
  Parts of the proof: FrameQ, Frame1Q, FrmSQ, FrmHQ, Ext, RdP, MoreL, Into, WMore.
-/
import Derived.Test.YthblfhgofopcaaaGreatRows
import Derived.Test.YthblfhgofopcaaaGreatSH01
import Derived.ProofKit
import Derived.OpenShut
import Derived.ShutString
import Derived.ChangeOld
import Derived.Below
import Derived.Lib.SmallJoins
import Derived.Deep.Slices
import Derived.Test.YthblfhgofopcaaaGreatSH15
import Derived.Test.YthblfhgofopcaaaGreatSH17
import Derived.Test.YthblfhgofopcaaaGreatSH09
import Derived.Deep.Fields
import Derived.ChangeSame
import Derived.Test.YthblfhgofopcaaaGreatSH46
import Derived.Test.YthblfhgofopcaaaGreatSH08
import Derived.Test.YthblfhgofopcaaaGreatSH13
import Derived.Test.YthblfhgofopcaaaGreatSH14
import Derived.Test.YthblfhgofopcaaaGreatSH41
set_option linter.all false
namespace Go.Proofs.YthblfhgofopcaaaGreat
open Go.RowKit Go.ChangeShapes Go.WideShapes Go.ChangeAt
theorem Rb:ownKnob Tryz.prog.godebug=none:=by kernel_rfl
theorem FH:laidOutB Tryz.prog=true:=by kernel_rfl
theorem WM:Tryz.prog.cellsOf 3=1:=by kernel_rfl
theorem OA {w:World} {x:Addr} {l c:Nat} {zs:List Int} (hl:l≤c) (hm:c≤maxLen) (hz:zs.length=c) (hcell:∀i,i<zs.length→w.cell? (x.add i)=some (.int .i64 (zs.getD i 0))) :
  BO w (.slice (some x) l c) (zs.take l):=by
 refine ⟨some x,c,by rw [List.length_take,Nat.min_eq_left (by omega)],by rw [List.length_take];omega,hm,fun i u hu=> ?_⟩;have hi:=(List.getElem?_eq_some_iff.1 hu).1;simp only [Ke,List.length_map,List.length_take] at hi;have hc:=hcell i (by omega);refine ⟨x,rfl,?_,?_⟩
 ·have:=World.block_lt_of_cell? w _ hc;rwa [Iq] at this
 ·rw [hc,←hu];have h2:i<zs.length:=by omega
  simp [List.getD,h2,show i<l by omega]
section
variable {H:Type} {enc:TypeId×Value→H} {W:World} {spare:Nat→Bool} {held:Bool}
theorem DE {t:TypeId} {fuel:Nat} {v:Value} {x:DataW H×List MemPlace} (ht:Tryz.prog.underlying t=some (.slice 3)) (h:DataW.trod enc Tryz.prog W 0 spare held fuel t [v]=some x) (hs:spare=fun _=>true) :
  ∃zs,BO W v zs∧∀z∈zs,(Lit.int .i64 z).wf=true:=by
 subst hs;rcases open_ints ht Tryz.underlying3 WM h with ⟨hcs,_⟩ | ⟨a,l,c,zs,hcs,_,hl,hm,hz,_,hcell,hwz⟩
 ·simp at hcs;subst hcs;exact ⟨[],BO.nil,by simp⟩
 ·simp at hcs;subst hcs;exact ⟨zs.take l,OA hl hm (by simpa using hz) hcell,fun z hz=>hwz z (List.mem_of_mem_take hz)⟩
end
end Go.Proofs.YthblfhgofopcaaaGreat

namespace Go.Proofs.YthblfhgofopcaaaGreat
open Go.Joins Go.ChangeShapes Go.WideShapes Go.RowKit Go.Deep
set_option maxRecDepth 100000
def cI (W:World):Cx:=⟨W,fun _=>0,fun _=>false,fun _=>False,fun _=>True,W.heap.size⟩
theorem jU (W:World):BH (cI W) (lk [] .nil):=⟨(fun r g sz es h=>by cases h),(fun r g sz es h=>by cases h),(fun r r' g g' sz sz' es es' h=>by cases h)⟩
theorem WA (W:World) {b:Nat} (hb:b<W.heap.size):Dx (cI W) (lk [] .nil) false b:=⟨hb,(by rintro ⟨r,g,sz,es,h,_⟩;cases h), .inr (.inr ⟨rfl,trivial⟩)⟩
theorem Io {W:World} {a:Addr} {u:Value} (h:W.cell? a=some u):a=⟨a.block,a.off,none⟩:=by
 obtain ⟨b,o,sp⟩:=a;cases sp with
 | none=>rfl
 | some k =>
  unfold World.cell? at h;split at h<;>simp at h
theorem ER {W:World} {v:Value} {zs:List Int} (h:BO W v zs):AS (cI W) (lk [] .nil) (AN false zs) v:=by
 obtain ⟨A,c,rfl,h1,h2,h3⟩:=h;cases zs with
 | nil=>exact .slE false 1 A c h2
 | cons z l =>
  obtain ⟨ad,rfl,hb,hc⟩:=h3 0 (.int .i64 z) rfl;have e0:ad.add 0=ad:=rfl;rw [e0] at hc;obtain ⟨b,o,rfl⟩:∃b o,ad=⟨b,o,none⟩:=⟨_,_,Io hc⟩;have hl:(z::l).length=((z::l).map I).length:=by simp
  rw [hl];have dest:∀(i:Nat) (e:AV),((z::l).map I)[i]? =some e→∃y,(z::l)[i]? =some y∧e=I y:=fun i e he=>by
   rw [List.getElem?_map] at he;cases hz:(z::l)[i]? with
   | none=>rw [hz] at he;cases he
   | some y =>
    rw [hz] at he;injection he with he
    exact ⟨y,rfl,he.symm⟩
  refine .sl false 1 ((z::l).map I) b o c (fun i _=> .int .i64 ((z::l).getD i 0)) (by rw [List.length_map];exact h1) h2 (WA W hb) (fun i e he=> ?_) (fun i e j x he hx=> ?_) (fun i e j x he hx=> ?_)
  ·obtain ⟨y,hz,rfl⟩:=dest i e he;rfl
  ·obtain ⟨y,hz,rfl⟩:=dest i e he;obtain ⟨ad',e',hb',hc'⟩:=h3 i (.int .i64 y) (by rw [Ke,List.getElem?_map,hz];rfl);injection e' with e'
   subst e';have hj:j=0:=by
    cases j with
    | zero=>rfl
    | succ j=>simp [AV.cs,I] at hx
   subst hj;rw [Addr.add_lit] at hc';show W.cell? ⟨b,o+i*1+0,none⟩=_;rw [List.getD_eq_getElem?_getD,hz];simpa using hc'
  ·obtain ⟨y,hz,rfl⟩:=dest i e he;have hj:j=0:=by
    cases j with
    | zero=>rfl
    | succ j=>simp [AV.cs,I] at hx
   subst hj;simp [AV.cs,I] at hx;subst hx;rw [List.getD_eq_getElem?_getD,hz];exact .v _
theorem T0 {f:Nat} {ys:List AV} (h:AM Tryz.prog f ys (B true)) {W:World} {vals:Array Value} (hr:QX (cI W) (lk [] .nil) ys vals):Calls Tryz.prog f vals W (OF W (.bool true)):=by
 refine (h.2 (cI W) vals rfl (jU W) hr).mono ?_;rintro e w' ⟨v,x,hl,c',rfl,rfl,⟨rfl,rfl⟩,k,_,rv⟩;have:=As rv;subst this;refine ⟨rfl,?_⟩;exact ⟨k.os,k.tape,k.output,k.size,fun b hb=>k.blk b hb (by rintro ⟨r,g,sz,es,h,_⟩;cases h)⟩
end Go.Proofs.YthblfhgofopcaaaGreat

namespace Go.Proofs.YthblfhgofopcaaaGreat
open Go.Joins Go.ChangeShapes Go.WideShapes Go.RowKit Go.Deep Go.ChangeAt
theorem NA {W:World} {v:Value} {zs:List Int} (h:BO W v zs):zs.length≤9223372036854775807:=by
 obtain ⟨_,_,_,h1,h2,_⟩:=h;unfold maxLen at h2;omega
end Go.Proofs.YthblfhgofopcaaaGreat

namespace Go.Proofs.YthblfhgofopcaaaGreat
open Go.RowKit
set_option maxRecDepth 100000
section
variable {inv:Nat→Option Nat} {f:Bool}
@[go_sem] theorem wX (m:Fm):(DN f m).low=DN false m:=by simp only [DN,AV.low,lowL,Vs]
@[go_sem] theorem xA (l:List Fm):lowL (l.map (DN f))=l.map (DN false):=M0 wX l
@[go_sem] theorem wU (m:Rg):(Hi true m).allT=true:=by simp only [Hi,AV.allT,allTL,iU];rfl
end
theorem wT (x:Int) (s:AL) (hv:AP s=0):Hn Tryz.prog 43 [.ref 0 0 0 0,AO s] (Af x) (fun a:List Fm×Int=>Bh false a.1) (fun a=>Af a.2) (fun a=>(∀f∈a.1,Az s f=0∧f.ks.length≤1000)∧1≤a.1.length∧a.1.length≤3):=by
 have h:=Nr x s hv;unfold Hn at h ⊢;refine DX (EE h fun v hl=> ?_);rintro ⟨a,ok,rfl,rfl⟩;exact ⟨_,An.sl _ _ _,a,ok,rfl,rfl⟩
def wZ:List (Nat×List Nat):=[(0,[0,1,2]),(1,[1,2,7,8,9,10]),(2,[1,2,8,9,10,11]),(3,[2,8,9,10,12]),(4,[2,8,9,10,12]),(5,[2,8,9,10,12,13,14]),(6,[8,9,10,13,14,15]),(7,[9,13,14,15,81]),(8,[6]),(9,[9,13,14,15,16]),(10,[9,13,14,15,16,85]),(11,[9,13,14,15,16]),(12,[9,13,14,15,16,17]),(13,[9,13,14,15,16,17]),(14,[9,13,14,15,16]),(15,[6])]
def wY:List (Nat×List Nat):=[(0,[0,1]),(1,[0,1]),(2,[0,1,9]),(3,[0]),(4,[4])]
@[go_sem] theorem xE:Tryz.f8.results.toList=[.tmp 6]:=rfl
@[go_sem] theorem xD:Tryz.f26.results.toList=[.tmp 4]:=rfl
def xB:List (Nat×List Nat×List Nat):=[(5,[0,1,2,3,5,6,7,8,9,4,10,11,12],[0,0,0,0,15,0,0,64,0,0,1023,2047,4095]),(6,[0,1,2,4,5,7,8,3,6,9,10],[0,0,0,6,0,16,62,0,0,511,1023]),(14,[0,1,3,4,2,5,6],[0,0,3,0,8,31,63])]
def w7:List (Nat×List Nat×List Nat):=[]
set_option maxHeartbeats 2000000
structure FM (s:AL) (l:List Fm) (h:Hd):Prop where
 f:∀f∈l,f.ks.length≤1000000
 l:l.length≤1000000
 s:s.su.length≤1000000
 m:h.me.length≤1000000
 b:h.bag.length≤1000000
theorem HW {s:AL} {l:List Fm} {h:Hd} (hf:Ch s l h=true):∀f∈l,Az s f=0:=by
 unfold Ch at hf;simp only [Bool.and_eq_true,decide_eq_true_eq] at hf;exact (Ht hf.1).2.2
theorem QI (r:Rg) (h:r.gs.length≤1000000):AM Tryz.prog 86 [Hi false r,Hi false r] (B true):=by
 have CG:=FO r.gs r.gs h;rw [decide_eq_true rfl] at CG;obtain ⟨fm,gs,at_⟩:=r;refine zb Tryz.ntmps86 ?_;let tb:=fH;let lv:=Z8;(repeat' first | refine zS CG ?_ | refine zQ ?_ | (refine zN ?_;intro K hC hK) | (refine zM ?_;try clear hK hC K) | (refine zC ?_ ?_<;>intro hb) | (refine zK ?_;intro Jo JU JC AH AJ AG))
 all_goals refine Aa [] ?_ ?_<;>(first | exact AK | refine zE ?_)
theorem J7 (l:List Rg) (h0:l.length≤1000000000000) (h:∀r∈l,r.gs.length≤1000000):AM Tryz.prog 27 [N0 false l,N0 false l] (B true):=by
 refine zb Tryz.ntmps27 ?_;let tb:=gM;let lv:=Zk;(have fa:= @bne_self_eq_false.{0};(repeat' first | refine zQ ?_ | (refine zN ?_;intro K hC hK) | (refine zM ?_;try clear hK hC K) | (refine zC ?_ ?_<;>intro hb) | (refine zK ?_;intro Jo JU JC AH AJ AG))<;>(try clear fa))
 refine Ab l.length (fun j σ=>σ=⟨900,[(0,N0 false l),(1,N0 false l),(5,I j)],[]⟩) [] [] 0 [0,1,5] 900 zf zf (by exact zV) ?_;rintro j σ' hj rfl J hcJ hJ;by_cases hlt:j<l.length
 ·obtain ⟨r,hr⟩:∃r,l[j]=r:=⟨_,rfl⟩;have CS:=QI r (h r (by rw [←hr];exact List.getElem_mem hlt));(have fa:=hr;(repeat' first | refine zS CS ?_ | refine zQ ?_ | (refine zN ?_;intro K hC hK) | (refine zM ?_;try clear hK hC K) | (refine zC ?_ ?_<;>intro hb) | (refine zK ?_;intro Jo JU JC AH AJ AG))<;>(try clear fa))
  exact hJ _ hlt (by exact zV)
 ·obtain rfl:j=l.length:=by omega
  (repeat' first | refine zQ ?_ | (refine zN ?_;intro K hC hK) | (refine zM ?_;try clear hK hC K) | (refine zC ?_ ?_<;>intro hb) | (refine zK ?_;intro Jo JU JC AH AJ AG))
  refine Aa [] ?_ ?_<;>(first | exact AK | refine zE ?_)
theorem UK {me:List Gp} {last fm:Int} {c:List Gp}:∀n,∀r∈L2 me last fm c n,r.gs=me++c
 | 0=>fun r hr=>by cases hr
 | n+1=>fun r hr=>by
  rw [L2] at hr;rcases List.mem_append.1 hr with hr | hr
  ·exact UK n r hr
  ·split at hr
   ·simp at hr;subst hr;rfl
   ·cases hr
theorem Ty {A:Fm→List (List Gp)} {me:List Gp} {last:Int} {l:List Fm}:∀n,∀r∈Kn A me last l n,∃f∈l,∃c∈A f,r.gs=me++c
 | 0=>fun r hr=>by cases hr
 | n+1=>fun r hr=>by
  rw [Kn] at hr;rcases List.mem_append.1 hr with hr | hr
  ·exact Ty n r hr
  ·split at hr
   ·cases hr
   ·rename_i f hf;unfold N7 at hr;obtain ⟨c,hc,hr⟩:=List.mem_flatMap.1 hr;exact ⟨f,List.mem_of_getElem? hf,c,hc,UK _ r hr⟩
def Mz (s:AL) (l:List Fm) (h:Hd) (last:Int):List Rg:=GI s h (Hf s h) l last
theorem SA {s:AL} {l:List Fm} {h:Hd} (last:Int) (hl:l.length≤100) (hm:h.me.length≤100):(Mz s l h last).length≤1000000000000∧∀r∈Mz s l h last,r.gs.length≤1000000:=by
 unfold Mz GI;split
 ·rename_i ha;unfold RJ at ha;simp only [Bool.and_eq_true,decide_eq_true_eq] at ha;obtain ⟨⟨⟨⟨c1,c2⟩,_⟩,_⟩,_⟩:=ha;have hA:∀f∈l,Yx s (Hf s h f):=fun f hf=>Nm (HW c1 f hf) c2
  refine ⟨?_,fun r hr=> ?_⟩
  ·have:=Lz (Hf s h) h.me last (fs:=l) (a:=100000) (m:=100) (fun f hf=>⟨(hA f hf).ln,fun c hc=>((hA f hf).w c hc).2.1⟩) l.length;have h2:=Nat.mul_le_mul_right (100000*100) hl;omega
  ·obtain ⟨f,hf,c,hc,e⟩:=Ty _ r hr;have:=((hA f hf).w c hc).2.1;rw [e,List.length_append];omega
 ·exact ⟨by simp,fun r hr=>by cases hr⟩
@[go_sem] theorem xC (f:Bool) (l:List Rg):(∀u∈l.map (Hi f),∀v∈u.cs,v.one=true)=True:=L7 (fun x v hv=>by simp [Hi,AV.cs] at hv;rcases hv with rfl | rfl | rfl<;>rfl) l
@[go_sem] theorem w9 (l:List Rg):allTL (l.map (Hi true))=true:=VX (fun m=>wU m) l
theorem wK {s:AL} {l:List Fm} {h:Hd} (last:Int) (S:FM s l h):AM Tryz.prog 28 [AO s,Bh false l,Cb false h,I last] (N0 true (Mz s l h last)) :=
 M5 s h (Hf s h) l last S.f S.l S.s S.m S.b fun hf hu f hm=>⟨Nm (HW hf f hm) hu,LU s f h (HW hf f hm) hu⟩
def Rg.by (n:Int) (r:Rg):Rg:={ r with fm:=n }
theorem wR (A:Fm→List (List Gp)) (me:List Gp) (last:Int) (l:List Fm) (f:Fm):∀n,n≤l.length→Kn A me last (l++[f]) n=Kn A me last l n
 | 0,_=>rfl
 | n+1,h=>by
  rw [Kn,Kn,wR A me last l f n (by omega),List.getElem?_append_left (by omega)]
theorem wW (me:List Gp) (last a b:Int) (c:List Gp):∀n,(L2 me last a c n).map (Rg.by b)=L2 me last b c n
 | 0=>rfl
 | n+1=>by
  rw [L2,L2,List.map_append,wW me last a b c n];split<;>rfl
theorem wV (me:List Gp) (last a b:Int):∀cs,(N7 me last a cs).map (Rg.by b)=N7 me last b cs
 | []=>rfl
 | c::cs=>by
  have h:=wV me last a b cs;unfold N7 at h ⊢;rw [List.flatMap_cons,List.flatMap_cons,List.map_append,wW,h]
theorem wM {s:AL}:∀{l:List Fm},(∀f∈l,Az s f=0)→El s l=0
 | [],_=>rfl
 | f::l,h=>by
  have h1:=h f (by simp);rw [El,if_neg (by omega),wM fun g hg=>h g (by simp [hg])]
theorem wL {s:AL} {l:List Fm} (hv:AP s=0) (h0:0<l.length) (h8:l.length≤8) (h:∀f∈l,Az s f=0):A6 s l=0:=by
 unfold A6;rw [if_neg (by omega),if_neg (by omega),if_neg (by omega),wM h]
theorem wP {s:AL} {h:Hd} {l m:List Fm} (last:Int) (h1:A6 s l=0) (h2:A6 s m=0):RJ s h l last=RJ s h m last:=by
 unfold RJ Ch;rw [h1,h2]
theorem wS {s:AL} {h:Hd} {l:List Fm} {f:Fm} (last:Int) (h1:A6 s l=0) (h2:A6 s [f]=0) (h3:A6 s (l++[f])=0):Mz s (l++[f]) h last=Mz s l h last++(Mz s [f] h last).map (Rg.by l.length):=by
 unfold Mz GI;rw [wP last h3 h1,wP last h2 h1];split
 ·rw [List.length_append,List.length_singleton,Kn,wR _ _ _ _ _ _ (Nat.le_refl _),List.getElem?_append_right (Nat.le_refl _),Nat.sub_self];show _++N7 _ _ _ _=_++List.map _ (Kn _ _ _ [f] 1);rw [Kn,Kn,List.nil_append];show _++N7 _ _ _ _=_++List.map _ (N7 _ _ _ _);rw [wV]
 ·rfl
theorem wO (n m:Int) (h0:0<m) (h1:m≤1000000000):AM Tryz.prog 26 [I n,I m] (I (n % m)):=by
 have hm:=Int.emod_nonneg n (show m≠0 by omega);have hl:=Int.emod_lt_of_pos n h0;have ht:n.tmod m=n % m∨(n.tmod m<0∧n.tmod m+m=n % m):=by
  rw [Int.tmod_eq_emod];split
  ·left;omega
  ·right;have:(m.natAbs:Int)=m:=by omega
   rw [this];omega
 obtain ⟨z,hz⟩:∃z,n.tmod m=z:=⟨_,rfl⟩;obtain ⟨y,hy⟩:∃y,n % m=y:=⟨_,rfl⟩;rw [hz,hy] at ht;rw [hy] at hm hl ⊢;have hne:¬m=0:=by omega
 refine zb Tryz.ntmps26 ?_;let tb:=w7;let lv:=wY;(have fa:=hz;(repeat' first | refine zQ ?_ | (refine zN ?_;intro K hC hK) | (refine zM ?_;try clear hK hC K) | (refine zC ?_ ?_<;>intro hb) | (refine zK ?_;intro Jo JU JC AH AJ AG))<;>(try clear fa))
 ·obtain rfl:y=z+m:=by omega
  refine Aa [] ?_ ?_<;>(first | exact AK | refine zE ?_)
 ·obtain rfl:y=z:=by omega
  refine Aa [] ?_ ?_<;>(first | exact AK | refine zE ?_)
set_option maxHeartbeats 8000000 in
theorem wQ (nums:List Int) (which last:Int) (hn:nums.length≤9223372036854775807):AM Tryz.prog 8 [AN false nums,I which,I last] (B true):=by
 refine zb Tryz.ntmps8 ?_;let tb:=xB;let lv:=wZ;(repeat' first | refine zQ ?_ | (refine zN ?_;intro K hC hK) | (refine zM ?_;try clear hK hC K) | (refine zC ?_ ?_<;>intro hb) | (refine zK ?_;intro Jo JU JC AH AJ AG))
 (refine zX (tg []) (Tu nums hn) ?_;clear AH AJ AG Jo JU JC);intro xr hxr;have V:=hxr.made.ok;have hxl:=hxr.xl;have hpl:=(A7 V).2.2.2;have hfull:=hxr.full;have hfo:=hxr.fo;have hf1:=hxr.f1;have hf3:=hxr.f3;obtain ⟨y,t,fs,ms,X,g0⟩:=xr;dsimp only at V hxl hpl hfull hfo hf1 hf3 ⊢;have ho:G5 t ⟨X,ms⟩:=DP (by unfold Am at hfull;simp at hfull;exact hfull.1);have hmm:=ho.mm;have hme:=(AU V).me;have hsu3:=(AU V).su3;have hp1:=(AU V).plain.1;dsimp only at hmm;have hTX:List.take X.length X=X:=List.take_length;have CF:=wT y t V;have hF:=SB.frz hC hK [(32,0),(128,1),(144,2)] 1 [1,2,7,8,9,10] 990 zf;clear hK;(repeat' first | refine zQ ?_ | (refine zN ?_;intro K hC hK) | (refine zM ?_;try clear hK hC K) | (refine zC ?_ ?_<;>intro hb) | (refine zK ?_;intro Jo JU JC AH AJ AG))
 refine hF _ [(1,I which),(2,I last),(7, .ref 0 0 0 0),(8, .ref 1 0 0 0),(9,Bh false fs),(10, .ref 2 0 0 0)] [(0, .arr 0 1 [U y]),(1, .arr 0 9 [AO t]),(2, .arr 0 2 [.agg [AN true X,AX false ms]])] (by (have fa:=hTX;exact C8)) ?_;clear hF hC K;(repeat' first | refine zQ ?_ | (refine zN ?_;intro K hC hK) | (refine zM ?_;try clear hK hC K) | (refine zC ?_ ?_<;>intro hb) | (refine zK ?_;intro Jo JU JC AH AJ AG))
 (have fa:=(And.intro @Af.eq_1 hTX);refine zX (tg [0]) (CF) ?_;clear AH AJ AG Jo JU JC;(try clear fa));intro xr hxr;obtain ⟨ms2,y2⟩:=xr;obtain ⟨q1,q2,q3⟩:=hxr;dsimp only at q1 q2 q3 ⊢;have CI:=wO which ((fs.length:Int)+ms2.length) (by omega) (by omega);obtain ⟨i,hi,hil⟩:∃i:Nat,which % ((fs.length:Int)+ms2.length)=i∧i<fs.length+ms2.length:=by
  have h0:=Int.emod_nonneg which (b:=(fs.length:Int)+ms2.length) (by omega);have h1:=Int.emod_lt_of_pos which (b:=(fs.length:Int)+ms2.length) (by omega);exact ⟨(which % ((fs.length:Int)+ms2.length)).toNat,by omega,by omega⟩
 rw [hi] at CI;have CL:=wO last X.length (by omega) (by omega);obtain ⟨z,hz⟩:∃z,last % (X.length:Int)=z:=⟨_,rfl⟩;rw [hz] at CL;obtain ⟨f,hf⟩:∃f,(fs++ms2)[i]'(by simp;exact hil)=f:=⟨_,rfl⟩;have hfn:Dv ((fs++ms2).map (DN false)) i=DN false f:=by rw [Ih _ _ _ (by simp;exact hil),hf]
 have hfm:f∈fs++ms2:=by rw [←hf];exact List.getElem_mem _
 have hff:Az t f=0∧f.ks.length≤1000:=by
  rcases List.mem_append.1 hfm with h | h
  ·exact hfo f h
  ·exact q1 f h
 have hv8:∀g∈fs,Az t g=0:=fun g hg=>(hfo g hg).1
 have hm1:∀g∈[f],Az t g=0:=fun g hg=>by simp at hg;subst hg;exact hff.1
 have hm2:∀g∈fs++[f],Az t g=0:=fun g hg=>by
  rcases List.mem_append.1 hg with h | h
  ·exact hv8 g h
  ·exact hm1 g h
 have hap:(fs++[f]).length=fs.length+1:=by simp
 have hapT:(fs++[f]).take (fs.length+1)=fs++[f]:=List.take_of_length_le (by simp);have R:=wS (s:=t) (h:=⟨X,ms⟩) (l:=fs) (f:=f) z (wL V (by omega) (by omega) hv8) (wL V (by simp) (by simp) hm1) (wL V (by omega) (by omega) hm2);have hk0:∀g∈fs,g.ks.length≤1000000:=fun g hg=>by have:=(hfo g hg).2;omega
 have hk1:∀g∈[f],g.ks.length≤1000000:=fun g hg=>by simp at hg;subst hg;omega
 have hk2:∀g∈fs++[f],g.ks.length≤1000000:=fun g hg=>by
  rcases List.mem_append.1 hg with h | h
  ·exact hk0 g h
  ·exact hk1 g h
 have P1:=wK (s:=t) (l:=fs) (h:=⟨X,ms⟩) z ⟨hk0,by omega,by omega,by dsimp only;omega,by dsimp only;omega⟩;have P2:AM Tryz.prog 28 [AO t, .sl false 3 [DN false f],Cb false ⟨X,ms⟩,I z] (N0 true (Mz t [f] ⟨X,ms⟩ z)):=wK (s:=t) (l:=[f]) (h:=⟨X,ms⟩) z ⟨hk1,by simp,by omega,by dsimp only;omega,by dsimp only;omega⟩;have P3:=wK (s:=t) (l:=fs++[f]) (h:=⟨X,ms⟩) z ⟨hk2,by omega,by omega,by dsimp only;omega,by dsimp only;omega⟩;obtain ⟨p1,p2⟩:=SA (s:=t) (l:=fs++[f]) (h:=⟨X,ms⟩) z (by omega) (by dsimp only;omega);obtain ⟨A,hA⟩:∃A,Mz t fs ⟨X,ms⟩ z=A:=⟨_,rfl⟩;obtain ⟨B,hB⟩:∃B,Mz t [f] ⟨X,ms⟩ z=B:=⟨_,rfl⟩;rw [hA,hB] at R;rw [R] at P3 p1 p2;rw [hA] at P1;rw [hB] at P2;have CU:=Kc t ⟨X,ms⟩ (by dsimp only;omega) (by dsimp only;omega);rw [hfull] at CU;have hlen:(A++B.map (Rg.by fs.length)).length=A.length+B.length:=by simp
 clear R hA hB hm1 hm2 hk0 hk1 hk2 hv8 q1;(have fa:=(And.intro hTX (And.intro hfn (And.intro hapT (And.intro hap (And.intro @bne_self_eq_false.{0} @Ay)))));(repeat' first | refine zS CI ?_ | refine zS CL ?_ | refine zS P1 ?_ | refine zS P2 ?_ | refine zS P3 ?_ | refine zS CU ?_ | refine zQ ?_ | (refine zN ?_;intro K hC hK) | (refine zM ?_;try clear hK hC K) | (refine zC ?_ ?_<;>intro hb) | (refine zK ?_;intro Jo JU JC AH AJ AG))<;>(try clear fa))
 refine At (α:=Nat) (fun i=>[(9,Bh false fs),(13,N0 true (A++(B.take i).map (Rg.by fs.length))),(14,N0 true B),(15,N0 true (A++B.map (Rg.by fs.length))),(16,I i)]) (fun _=>[])
  (fun i=>B.length-i) (fun i=>i≤B.length) [] [] 1 [9,13,14,15,16] 900 zf zf 0 (Nat.zero_le _) (by (have fa:=(And.intro @List.take_zero.{0} (And.intro @List.map_nil.{0,0} @List.append_nil.{0}));exact C8)) ?_
 rintro k hk J hcJ hJ;by_cases hlt:k<B.length
 ·obtain ⟨r,hr⟩:∃r,B[k]=r:=⟨_,rfl⟩;have hst:A++(B.take (k+1)).map (Rg.by fs.length)=(A++(B.take k).map (Rg.by fs.length))++[r.by fs.length]:=by
   rw [List.take_succ_eq_append_getElem hlt,hr,List.map_append,List.append_assoc];rfl
  have hln:(A++(B.take k).map (Rg.by fs.length)).length=A.length+k:=by
   rw [List.length_append,List.length_map,List.length_take];omega
  rw [hlen] at p1;obtain ⟨L,hL⟩:∃L,A++(B.take k).map (Rg.by fs.length)=L:=⟨_,rfl⟩;rw [hL] at hst hln ⊢;have hTL:L.take L.length=L:=List.take_length;have hx:AV.agg [I fs.length,AX true r.gs,I r.at_]=Hi true (r.by fs.length):=rfl;obtain ⟨rf,rg,ra⟩:=r;dsimp only at hx;have hTL2:(L++[Rg.by fs.length ⟨rf,rg,ra⟩]).take (L.length+1)=L++[Rg.by fs.length ⟨rf,rg,ra⟩]:=List.take_of_length_le (by simp);(have fa:=(And.intro hr (And.intro hTL hx));(repeat' first | refine zQ ?_ | (refine zN ?_;intro K hC hK) | (refine zM ?_;try clear hK hC K) | (refine zC ?_ ?_<;>intro hb) | (refine zK ?_;intro Jo JU JC AH AJ AG))<;>(try clear fa))
  exact hJ _ (k+1) (by omega) (by omega) (by (have fa:=(And.intro hst (And.intro @List.length_append.{0} (And.intro hx (And.intro hTL hTL2))));exact C8))
 ·obtain rfl:k=B.length:=by omega
  rw [List.take_length];have CS:=J7 _ p1 p2;(repeat' first | refine zS CS ?_ | refine zS Gy ?_ | refine zQ ?_ | (refine zN ?_;intro K hC hK) | (refine zM ?_;try clear hK hC K) | (refine zC ?_ ?_<;>intro hb) | (refine zK ?_;intro Jo JU JC AH AJ AG))
  refine Aa [] ?_ ?_<;>(first | exact AK | refine zE ?_)
theorem wN (v0:Value) (nums:List Int) (which last:Int) (W:World) (w0:BO W v0 nums) (_x0:∀z∈nums,(Lit.int .i64 z).wf=true) (_w1:(Lit.int .i64 which).wf=true) (_w2:(Lit.int .i64 last).wf=true) :
  Calls Tryz.prog 8 #[v0, .int .i64 which, .int .i64 last] W (OF W (.bool true)):=by
 refine T0 (wQ nums which last (NA w0)) ⟨rfl,fun i x y hx hy=> ?_⟩;match i,hx,hy with
 | 0,hx,hy=>simp at hx hy;subst hx hy;exact ER w0
 | 1,hx,hy=>simp at hx hy;subst hx hy;exact .v _
 | 2,hx,hy=>simp at hx hy;subst hx hy;exact .v _
 | n+3,hx,hy=>simp at hx
end Go.Proofs.YthblfhgofopcaaaGreat
