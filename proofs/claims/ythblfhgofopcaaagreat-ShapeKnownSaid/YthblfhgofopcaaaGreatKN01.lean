/-
  Parts of the proof: FrameQ, Frame1Q, FrmSQ, FrmHQ, Ext, RdP, KnwW, WKnown.
-/
import Derived.Test.YthblfhgofopcaaaGreatRows
import Derived.Test.YthblfhgofopcaaaGreatSH01
import Derived.ProofKit
import Derived.OpenShut
import Derived.ShutString
import Derived.ChangeOld
import Derived.Below
import Derived.Lib.SmallJoins
import Derived.Deep.Slices
import Derived.Test.YthblfhgofopcaaaGreatSH15
import Derived.Test.YthblfhgofopcaaaGreatSH17
import Derived.Test.YthblfhgofopcaaaGreatSH09
import Derived.Deep.Fields
import Derived.ChangeSame
import Derived.Test.YthblfhgofopcaaaGreatSH08
import Derived.Test.YthblfhgofopcaaaGreatSH13
import Derived.Test.YthblfhgofopcaaaGreatSH14
import Derived.Test.YthblfhgofopcaaaGreatSH46
import Derived.Test.YthblfhgofopcaaaGreatSH41
set_option linter.all false
namespace Go.Proofs.YthblfhgofopcaaaGreat
open Go.RowKit Go.ChangeShapes Go.WideShapes Go.ChangeAt
theorem Rb:ownKnob Tryz.prog.godebug=none:=by kernel_rfl
end Go.Proofs.YthblfhgofopcaaaGreat

namespace Go.Proofs.YthblfhgofopcaaaGreat
open Go.Joins Go.ChangeShapes Go.WideShapes Go.RowKit Go.Deep
set_option maxRecDepth 100000
def cI (W:World):Cx:=⟨W,fun _=>0,fun _=>false,fun _=>False,fun _=>True,W.heap.size⟩
theorem jU (W:World):BH (cI W) (lk [] .nil):=⟨(fun r g sz es h=>by cases h),(fun r g sz es h=>by cases h),(fun r r' g g' sz sz' es es' h=>by cases h)⟩
theorem T0 {f:Nat} {ys:List AV} (h:AM Tryz.prog f ys (B true)) {W:World} {vals:Array Value} (hr:QX (cI W) (lk [] .nil) ys vals):Calls Tryz.prog f vals W (OF W (.bool true)):=by
 refine (h.2 (cI W) vals rfl (jU W) hr).mono ?_;rintro e w' ⟨v,x,hl,c',rfl,rfl,⟨rfl,rfl⟩,k,_,rv⟩;have:=As rv;subst this;refine ⟨rfl,?_⟩;exact ⟨k.os,k.tape,k.output,k.size,fun b hb=>k.blk b hb (by rintro ⟨r,g,sz,es,h,_⟩;cases h)⟩
end Go.Proofs.YthblfhgofopcaaaGreat

namespace Go.Proofs.YthblfhgofopcaaaGreat
open Go.Joins Go.ChangeShapes Go.WideShapes Go.RowKit Go.Deep Go.ChangeAt
end Go.Proofs.YthblfhgofopcaaaGreat

namespace Go.Proofs.YthblfhgofopcaaaGreat
open Go.RowKit
set_option maxRecDepth 100000
def w7:List (Nat×List Nat):=[(0,[]),(1,[22]),(2,[0]),(3,[1,2]),(4,[1,2,3,4]),(5,[1,2,3,4,5]),(6,[1,2,3,6]),(7,[1,2,3,6,7]),(8,[1,3,6,7,8]),(9,[1,3,6,7,8,9]),(10,[1,3,6,7,8,9,10,11]),(11,[1,3,6,7,8,9,10,11,12]),(12,[1,6,7,8,9,13]),(13,[1,6,7,8,13,14]),(14,[1,6,7,8,13,15]),(15,[6,7,8,13,15,16]),(16,[0])]
def xD:List (Nat×List Nat):=[(0,[]),(1,[1,2]),(2,[1,2,3,4]),(3,[1,2,3,4,5]),(4,[1,2,3,4,5,6]),(5,[1,2,3,4,5,6,7]),(6,[1,2,3,4,5,6,7,28]),(7,[1,2,3,4,5,6,7]),(8,[1,2,3,4,5,6,7]),(9,[1,2,3,4,5,6,7,43]),(10,[0]),(11,[1,2,4]),(12,[1,2,4,8]),(13,[1,2,4,8]),(14,[2,81]),(15,[0]),(16,[2,9,10]),(17,[2,10,11]),(18,[2,10,11,12]),(19,[2,10,11,12,13]),(20,[2,10,11,12,13,14]),(21,[2,10,11,12,13,14,110]),(22,[2,10,11,12,13,14]),(23,[2,10,11,12,13,14,136]),(24,[0]),(25,[0])]
def xC:List (Nat×List Nat):=[(0,[]),(1,[0])]
def wZ:List (Nat×List Nat):=[(0,[0]),(1,[0,3]),(2,[0,3,4]),(3,[0,3,4,9]),(4,[0,3,4]),(5,[0,3,4]),(6,[2])]
@[go_sem] theorem xZ:Fx 82=some ⟨false,1,24,[.slice none 0 0], .slice 22⟩:=rfl
@[go_sem] theorem xQ:Fx 128=some ⟨false,1,24,[.slice none 0 0], .slice 34⟩:=rfl
@[go_sem] theorem xS:Fx 129=some ⟨false,1,24,[.slice none 0 0], .slice 4⟩:=rfl
@[go_sem] theorem xV:Tryz.f15.results.toList=[.tmp 0]:=rfl
@[go_sem] theorem xX:Tryz.f65.results.toList=[.tmp 0]:=rfl
@[go_sem] theorem x5:Tryz.f69.results.toList=[.tmp 0]:=rfl
@[go_sem] theorem xW:Tryz.f70.results.toList=[.tmp 2]:=rfl
def xG:List (Nat×List Nat×List Nat):=[(5,[0,1,2,3,4],[0,0,2,7,15]),(6,[0,1,2,3,4,5,6,7,8,9,10,11,12,13,14,15,16,17,18,19,20,21,22,23,24,25,26,27,28,29,30,31,32,33,34,35,36,37,38,39],[0,1,3,7,15,31,63,127,15,15,783,2047,4095,8191,16383,32767,65535,131071,16383,16383,802815,2097151,4194303,8388607,16777215,16777215,50331647,134217727,268435455,536870911,1073741823,2147483647,4294967295,4294967295,12884901887,34359738367,68719476735,137438953471,274877906943,549755813887]),(7,[0,4,1,2,3,5,6,7,11,8,9,10,12,13,14,15,19,16,17,18,20,21,22,23,27,24,25,26,28,29,30,31,35,32,33,34,36,37,38],[0,0,2,7,0,31,63,127,127,383,1023,127,4095,8191,16383,32767,32767,98303,262143,32767,1048575,2097151,4194303,8388607,8388607,25165823,67108863,8388607,268435455,536870911,1073741823,2147483647,2147483647,6442450943,17179869183,2147483647,68719476735,137438953471,274877906943]),(8,[0,2,3,1,4,5,6,7,8,9,11,12,10,13,14,15,16],[0,0,0,4,14,31,63,127,255,511,511,511,2559,7679,16383,32767,65535]),(13,[0,2,3,1,4,5],[0,0,0,4,15,31]),(15,[0,2,1,3,4,5,6],[0,0,0,6,14,31,63])]
def xJ:List (Nat×List Nat×List Nat):=[(9,[0,1,3,4,5,6,2,7],[0,0,3,0,0,24,56,127]),(17,[5,6,8,9,11,12,14,15,17,18,0,1,2,3,4,7,10,13,16,19,20,21],[0,1,3,7,15,0,32,127,0,256,1023,0,2048,8191,0,16384,65535,0,131072,524287,1048575,2097151]),(23,[0,1,2,3,4,6,7,8,9,5,10,11,12,13,14,15,16,18,19,20,21,17,22,23],[0,0,0,6,14,31,0,0,192,448,1023,2047,4095,4095,4095,28671,61439,131071,4095,4095,790527,1839103,4194303,8388607]),(25,[0,1,3,2,4,5,6,7,8,9,10,11,12,13,14,15,18,16,17,19,20,21],[0,0,3,0,15,31,63,63,255,511,1023,2047,4095,8191,8191,24575,57343,131071,8191,524287,1048575,2097151])]
def xL:List (Nat×List Nat×List Nat):=[]
def xI:List (Nat×List Nat×List Nat):=[]
set_option maxHeartbeats 2000000
def Ug (s:AL) (l:List Fm) (h:Hd):Bool:=Dn s h (Hf s h) l
def Hm (s:AL) (l:List Fm) (h:Hd):List Int:=DC s h l fun k=>Dn s ⟨Aq h.bag k,h.me⟩ (Hf s ⟨Aq h.bag k,h.me⟩) l
structure FM (s:AL) (l:List Fm) (h:Hd):Prop where
 f:∀f∈l,f.ks.length≤1000000
 l:l.length≤1000000
 s:s.su.length≤1000000
 m:h.me.length≤1000000
 b:h.bag.length≤1000000
theorem HW {s:AL} {l:List Fm} {h:Hd} (hf:Ch s l h=true):∀f∈l,Az s f=0:=by
 unfold Ch at hf;simp only [Bool.and_eq_true,decide_eq_true_eq] at hf;exact (Ht hf.1).2.2
theorem Fw {s:AL} {l:List Fm} {h:Hd} (S:FM s l h):AM Tryz.prog 33 [AO s,Bh false l,Cb false h] (B (Ug s l h)) :=
 OD s h (Hf s h) l S.f S.l S.s S.m S.b fun hf hu f hm=>LU s f h (HW hf f hm) hu
theorem GK {s:AL} {l:List Fm} {h:Hd} (S:FM s l h):AM Tryz.prog 36 [AO s,Bh false l,Cb false h] (AN true (Hm s l h)) :=
 M2 s h l _ S.f S.l S.s S.m S.b fun _ k _=>Fw (s:=s) (l:=l) (h:=⟨Aq h.bag k,h.me⟩) ⟨S.f,S.l,S.s,S.m,by dsimp only;rw [Cy];exact S.b⟩
theorem Hs (a:List Int) (ha:a.length≤1000000):AM Tryz.prog 35 [AN false a,AN false a] (B true):=by
 have:=Lb a a ha;rw [decide_eq_true rfl] at this;exact this
def Mz (s:AL) (l:List Fm) (h:Hd) (last:Int):List Rg:=GI s h (Hf s h) l last
theorem K9 {s:AL} {l:List Fm} {h:Hd} (last:Int) (S:FM s l h):AM Tryz.prog 28 [AO s,Bh false l,Cb false h,I last] (N0 false (Mz s l h last)) :=
 JG s h (Hf s h) l last S.f S.l S.s S.m S.b fun hf hu f hm=>⟨Nm (HW hf f hm) hu,LU s f h (HW hf f hm) hu⟩
theorem wK (a b c d:Int) (g:Gp):D3 Tryz.prog 68 [I a,I b,I c,I d, .rsl 0 0 0 1] [(0, .arr 0 3 [AZ g])] (.agg [AN true [a,b,c,d], .rsl 0 0 0 1]) [(0, .arr 0 3 [AZ g])]:=by
 unfold D3;refine FL 1 Tryz.ntmps68 ?_;let tb:=dX;let lv:=aA;(repeat' first | refine zQ ?_ | (refine zN ?_;intro K hC hK) | (refine zM ?_;try clear hK hC K) | (refine zC ?_ ?_<;>intro hb) | (refine zK ?_;intro Jo JU JC AH AJ AG))
 refine Aa [(0,0)] ?_ ?_<;>(first | exact AK | refine zE ?_);rfl
def xP:List (List Int):=[[0,1,3],[0,1,3,2],[0,1,2,3],[0,1,2,4]]
def xR:List Int:=[3,11,0,2]
def xO:List Hd:=[⟨[1,1,1,1],[]⟩,⟨[1,1,2,1],[]⟩,⟨[1,1,0,0],[]⟩,⟨[2,2,2,0],[]⟩,⟨[5,0,0,0],[]⟩,⟨[0,0,2,0],[⟨2,3,true⟩]⟩,⟨[0,0,2,0],[⟨2,3,false⟩]⟩,⟨[0,0,2,0],[⟨3,3,false⟩]⟩,⟨[0,2,0,0],[⟨1,1,true⟩]⟩,⟨[0,2,0,0],[⟨2,1,true⟩]⟩]
def xU:List Int:=[0,0,6,5,2,0,3,0,3,8]
def xN:List Bool:=[false,true,false,false,false,true,false,true,false,false]
theorem wW:∀i:Nat,i<4→∃l e,xP[i]? =some l∧xR[i]? =some e∧Az Eh ⟨3,l,false⟩=e∧l.length≤10:=fun i hi=>by
 rcases (show i=0∨i=1∨i=2∨i=3 by omega) with rfl | rfl | rfl | rfl<;>exact ⟨_,_,rfl,rfl,by decide +kernel,by decide⟩
theorem wV:∀i:Nat,i<10→∃h e f,xO[i]? =some h∧xU[i]? =some e∧xN[i]? =some f∧Ag Eh h=e∧Am Eh h=f∧h.bag.length≤10∧h.me.length≤10:=fun i hi=>by
 rcases (show i=0∨i=1∨i=2∨i=3∨i=4∨i=5∨i=6∨i=7∨i=8∨i=9 by omega) with rfl | rfl | rfl | rfl | rfl | rfl | rfl | rfl | rfl | rfl<;>exact ⟨_,_,_,rfl,rfl,rfl,by decide +kernel,by decide +kernel,by decide,by decide⟩
theorem xH (s:AL) (w:Int) (b:Bool) (hs:s.su.length≤1000000) {e:Int} (he:Az s ⟨w,[],b⟩=e):AM Tryz.prog 20 [AO s, .agg [I w,Bw,B b]] (I e):=by
 have:=IF s ⟨w,[],b⟩ (by simp) hs;rw [he] at this;exact OE (.cons .rfl' (.cons (An.agg (.cons .rfl' (.cons (An.nil false 1) (.cons .rfl' .nil)))) .nil)) this
theorem xE (s:AL) (f:Fm) {e:Int} (h:f.ks.length≤10) (hs:s.su.length≤10) (he:Az s f=e):AM Tryz.prog 20 [AO s,DN false f] (I e):=by
 have:=IF s f (by omega) (by omega);rw [he] at this;exact this
theorem xA:AM Tryz.prog 22 [AO Eh,Bw] (I 6):=by
 have:=Lr Eh [] (by simp) (by simp) (by decide);rw [show A6 Eh []=6 by decide +kernel] at this;exact OE (.cons .rfl' (.cons (An.nil false 3) .nil)) this
set_option maxHeartbeats 8000000 in
theorem wT:AM Tryz.prog 65 [] (B true):=by
 refine zb Tryz.ntmps65 ?_;let tb:=xJ;let lv:=xD;(repeat' first | refine zS XX ?_ | refine zS Uh ?_ | refine zQ ?_ | (refine zN ?_;intro K hC hK) | (refine zM ?_;try clear hK hC K) | (refine zC ?_ ?_<;>intro hb) | (refine zK ?_;intro Jo JU JC AH AJ AG))
 have hKm:xP.map (AN true)=[AN true [0,1,3],AN true [0,1,3,2],AN true [0,1,2,3],AN true [0,1,2,4]]:=rfl;refine At (α:=Nat×AV) (fun a=>[(1, .ref 0 0 0 0),(2, .ref 1 0 0 0),(3, .ref 2 0 0 0),(4, .ref 3 0 0 0),(5, .sl true 1 (xP.map (AN true))),(6,AN true xR),(7,I a.1)]) (fun a=>[(0, .arr 0 9 [AO eO]),(1, .arr 0 9 [AO Eh]),(2, .arr 0 3 [.agg [I 3,a.2,B false]]),(3, .arr 0 3 [.agg [I 6,Bw,B false]])])
  (fun a=>4-a.1) (fun a=>a.1≤4) [(48,0),(64,1),(144,2),(160,3)] [(0,0),(1,1),(2,2),(3,3)] 2 [1,2,3,4,5,6,7] 900 zf zf (0,Bw) (by decide) (by (have fa:=(And.intro hKm @xR.eq_1);exact C8)) ?_
 rintro ⟨k,ks⟩ hk J hcJ hJ;dsimp only at hk hJ ⊢;have hKl:xP.length=4:=rfl;have hEl:xR.length=4:=rfl;by_cases hlt:k<4
 ·obtain ⟨l,e,hl,he,hfe,hll⟩:=wW k hlt;obtain ⟨_,hl⟩:=List.getElem?_eq_some_iff.1 hl;obtain ⟨_,he⟩:=List.getElem?_eq_some_iff.1 he;have CF:=IF Eh ⟨3,l,false⟩ (by dsimp only;omega) (by decide);rw [hfe] at CF;have hn:Dv (xP.map (AN true)) k=AN true l:=by
   rw [Ih _ _ _ (by omega),hl]
  (have fa:=(And.intro hn (And.intro he (And.intro hKl (And.intro hEl @bne_self_eq_false.{0}))));(repeat' first | refine zS CF ?_ | refine zQ ?_ | (refine zN ?_;intro K hC hK) | (refine zM ?_;try clear hK hC K) | (refine zC ?_ ?_<;>intro hb) | (refine zK ?_;intro Jo JU JC AH AJ AG))<;>(try clear fa))
  exact hJ _ (k+1,AN true l) (by dsimp only;omega) (by dsimp only;omega) (by exact C8)
 ·have C1:=xE Eh ⟨6,[2,2,2,2,2],false⟩ (e:=8) (by decide) (by decide) (by decide +kernel);have C2:=xE Eh ⟨6,[2,2,2,2,1],false⟩ (e:=11) (by decide) (by decide) (by decide +kernel);have C3:=xH eO 1 true (by decide) (e:=3) (by decide +kernel);have C4:=xH Eh 5 false (by decide) (e:=3) (by decide +kernel);have qC5:=xH eO 2 false (by decide) (e:=0) (by decide +kernel);have qS6:=K3 1 1 1 1;have qS7:=K3 1 1 2 1;have qS8:=K3 1 1 0 0;have qS9:=K3 2 2 2 0;have S10:=K3 5 0 0 0;(have fa:=(And.intro hKl @bne_self_eq_false.{0});(repeat' first | refine zS C1 ?_ | refine zS C2 ?_ | refine zS C3 ?_ | refine zS C4 ?_ | refine zS qC5 ?_ | refine zS xA ?_ | refine zQ ?_ | (refine zN ?_;intro K hC hK) | (refine zM ?_;try clear hK hC K) | (refine zC ?_ ?_<;>intro hb) | (refine zK ?_;intro Jo JU JC AH AJ AG))<;>(try clear fa))
  (have fa:= @Ay;(repeat' first | refine zS qS6 ?_ | refine zS qS7 ?_ | refine zS qS8 ?_ | refine zS qS9 ?_ | refine zS S10 ?_ | refine zJ (tg [1812]) (wK 0 0 2 0 ⟨2,3,true⟩) ?_ | refine zJ (tg [1860]) (wK 0 0 2 0 ⟨2,3,false⟩) ?_ | refine zJ (tg [1908]) (wK 0 0 2 0 ⟨3,3,false⟩) ?_ | refine zJ (tg [1956]) (wK 0 2 0 0 ⟨1,1,true⟩) ?_ | refine zJ (tg [2004]) (wK 0 2 0 0 ⟨2,1,true⟩) ?_ | refine zQ ?_ | (refine zN ?_;intro K hC hK) | (refine zM ?_;try clear hK hC K) | (refine zC ?_ ?_<;>intro hb) | (refine zK ?_;intro Jo JU JC AH AJ AG))<;>(try clear fa))
  have hHm:xO.map (Cb true)=[Cb true ⟨[1,1,1,1],[]⟩,Cb true ⟨[1,1,2,1],[]⟩,Cb true ⟨[1,1,0,0],[]⟩,Cb true ⟨[2,2,2,0],[]⟩,Cb true ⟨[5,0,0,0],[]⟩,Cb true ⟨[0,0,2,0],[⟨2,3,true⟩]⟩,Cb true ⟨[0,0,2,0],[⟨2,3,false⟩]⟩,Cb true ⟨[0,0,2,0],[⟨3,3,false⟩]⟩,Cb true ⟨[0,2,0,0],[⟨1,1,true⟩]⟩,Cb true ⟨[0,2,0,0],[⟨2,1,true⟩]⟩]:=rfl;have hFm:xN.map B=[B false,B true,B false,B false,B false,B true,B false,B true,B false,B false]:=rfl;refine At (α:=Nat) (fun i=>[(2, .ref 0 0 0 0),(10, .ref 1 0 0 0),(11, .sl true 2 (xO.map (Cb true))),(12,AN true xU),(13, .sl true 1 (xN.map B)),(14,I i)]) (fun _=>[(0, .arr 0 9 [AO Eh]),(1, .arr 0 3 [AZ ⟨3,3,false⟩])]) (fun i=>10-i) (fun i=>i≤10) [(1,0),(1668,1)] [(0,0),(1,1)] 2 [2,10,11,12,13,14] 2900 zf zf 0 (by omega) (by (have fa:=(And.intro hHm (And.intro hFm @xU.eq_1));exact C8)) ?_;rintro i hi J2 hcJ2 hJ2;have hHl:xO.length=10:=rfl;have hRl:xU.length=10:=rfl;have hFl:xN.length=10:=rfl;clear C1 C2 C3 C4 qC5 qS6 qS7 qS8 qS9 S10 hHm hFm;by_cases hl:i<10
  ·obtain ⟨h,e,f,a1,a2,a3,a4,a5,a6,qa7⟩:=wV i hl;obtain ⟨_,a1⟩:=List.getElem?_eq_some_iff.1 a1;obtain ⟨_,a2⟩:=List.getElem?_eq_some_iff.1 a2;obtain ⟨_,a3⟩:=List.getElem?_eq_some_iff.1 a3;have CH:=Dk Eh h (by omega) (by omega);have CU:=Kc Eh h (by omega) (by omega);rw [a4] at CH;rw [a5] at CU;have n1:Dv (xO.map (Cb true)) i=Cb true h:=by rw [Ih _ _ _ (by omega),a1]
   have n2:Dv (xN.map B) i=B f:=by rw [Ih _ _ _ (by omega),a3]
   (have fa:=(And.intro n1 (And.intro n2 (And.intro a2 (And.intro hHl (And.intro hRl (And.intro hFl @bne_self_eq_false.{0}))))));(repeat' first | refine zS CH ?_ | refine zS CU ?_ | refine zQ ?_ | (refine zN ?_;intro K hC hK) | (refine zM ?_;try clear hK hC K) | (refine zC ?_ ?_<;>intro hb) | (refine zK ?_;intro Jo JU JC AH AJ AG))<;>(try clear fa))
   exact hJ2 _ (i+1) (by omega) (by omega) (by exact C8)
  ·have qT1:=Ep Eh ⟨1,0,false⟩;rw [show BT Eh 1 0=[0,1,2] by decide +kernel] at qT1;have qT2:=Ep Eh ⟨1,1,false⟩;rw [show BT Eh 1 1=[] by decide +kernel] at qT2;have qT3:=fZ Eh ⟨[0,0,2,0],[⟨3,3,false⟩]⟩ (by simp) (by simp);rw [show M9 Eh ⟨[0,0,2,0],[⟨3,3,false⟩]⟩=[0,0,2,4] by decide +kernel] at qT3;have qE1:=Lb [0,1,2] [0,1,2] (by simp);have qE2:=Lb [0,0,2,4] [0,0,2,4] (by simp);rw [decide_eq_true rfl] at qE1 qE2;(have fa:=(And.intro hHl @Ay);(repeat' first | refine zS qT1 ?_ | refine zS qT2 ?_ | refine zS qT3 ?_ | refine zS qE1 ?_ | refine zS qE2 ?_ | refine zJ (tg [3204]) (wK 0 0 2 0 ⟨3,3,false⟩) ?_ | refine zQ ?_ | (refine zN ?_;intro K hC hK) | (refine zM ?_;try clear hK hC K) | (refine zC ?_ ?_<;>intro hb) | (refine zK ?_;intro Jo JU JC AH AJ AG))<;>(try clear fa))
   refine Aa [] ?_ ?_<;>(first | exact AK | refine zE ?_)
def xY:List Fm:=[⟨3,[0,1,2,3],false⟩]
def xK:List Int:=Dm [0,0,0,1,1,1,2,2,2,3,3,27,27,27] 34
def xT:List Int:=Dm [0,0,0,1,2,3,4,5,6,7,8,8,8] 34
def xF:List (List Gp):=[[gp 1 0,gp 1 0,gp 1 0,gp 2 27,gp 4 3],[gp 1 0,gp 1 1,gp 1 1,gp 2 27,gp 4 0],[gp 2 0,gp 2 1,gp 2 2,gp 2 27,gp 4 3]]
theorem wP:AM Tryz.prog 69 [] (Bh true xY):=by
 refine zb Tryz.ntmps69 ?_;let tb:=xL;let lv:=xC;(repeat' first | refine zQ ?_ | (refine zN ?_;intro K hC hK) | (refine zM ?_;try clear hK hC K) | (refine zC ?_ ?_<;>intro hb) | (refine zK ?_;intro Jo JU JC AH AJ AG))
 refine Aa [] ?_ ?_<;>(first | exact AK | refine zE ?_);rfl
theorem wN (ks:List Int) (hk:D8 34 ks) (hl:ks.length≤1000):AM Tryz.prog 70 [AN false ks] (AN true (Dm ks 34)):=by
 have hr:List.replicate 34 (AV.v (.int .i64 0))=(List.replicate 34 0).map I:=by rw [List.map_replicate]
 have h0:∀i,-1000000≤(List.replicate 34 (0:Int)).getD i 0∧(List.replicate 34 (0:Int)).getD i 0≤1000000:=fun i=>by rw [Dl];omega
 have hk2:D8 (List.replicate 34 (0:Int)).length ks:=by rw [List.length_replicate];exact hk
 have e0:A5 (List.replicate 34 0) ks=Dm ks 34:=rfl;have hz0:(A5 (List.replicate 34 0) (ks.take 0)).map I=[I 0,I 0,I 0,I 0,I 0,I 0,I 0,I 0,I 0,I 0,I 0,I 0,I 0,I 0,I 0,I 0,I 0,I 0,I 0,I 0,I 0,I 0,I 0,I 0,I 0,I 0,I 0,I 0,I 0,I 0,I 0,I 0,I 0,I 0]:=rfl;refine zb Tryz.ntmps70 ?_;let tb:=xI;let lv:=wZ;(have fa:=hr;(repeat' first | refine zQ ?_ | (refine zN ?_;intro K hC hK) | (refine zM ?_;try clear hK hC K) | (refine zC ?_ ?_<;>intro hb) | (refine zK ?_;intro Jo JU JC AH AJ AG))<;>(try clear fa))
 refine Ab ks.length (fun j σ=>σ=⟨900,[(0,AN false ks),(3, .rsl 0 0 0 34),(4,I j)],[(0, .arr 0 1 ((A5 (List.replicate 34 0) (ks.take j)).map I))]⟩) [(16,0)] [(0,0)] 0 [0,3,4] 900 zf zf (by (have fa:=hz0;exact zV)) ?_;rintro j σ' hj rfl J hcJ hJ;by_cases hlt:j<ks.length
 ·obtain ⟨z,hz⟩:∃z,ks[j]=z:=⟨_,rfl⟩;have hin:=hk z (by rw [←hz];exact List.getElem_mem hlt);have ht:=D4 (List.replicate 34 0) ks hlt;have hYl:=Bp (ks.take j) (List.replicate 34 0);rw [List.length_replicate] at hYl;have hYb:=vG hk2 hl h0 j;obtain ⟨Y,hYe⟩:∃Y,A5 (List.replicate 34 0) (ks.take j)=Y:=⟨_,rfl⟩;rw [hYe,hz] at ht;rw [hYe] at hYl hYb;have A:=I3 (X:=Y) (z:=z) hin.1 (by omega) hYb;have a1:=A.lt;have a2:=A.up;have a3:=A.st;rw [hYe];(have fa:=(And.intro hz (And.intro a2 a3));(repeat' first | refine zQ ?_ | (refine zN ?_;intro K hC hK) | (refine zM ?_;try clear hK hC K) | (refine zC ?_ ?_<;>intro hb) | (refine zK ?_;intro Jo JU JC AH AJ AG))<;>(try clear fa))
  exact hJ _ hlt (by (have fa:=ht;exact zV))
 ·obtain rfl:j=ks.length:=by omega
  have hl2:(Dm ks 34).length=34:=Do _ _;have hT:List.take 34 (Dm ks 34)=Dm ks 34:=List.take_of_length_le (by omega);rw [List.take_length,e0];(repeat' first | refine zQ ?_ | (refine zN ?_;intro K hC hK) | (refine zM ?_;try clear hK hC K) | (refine zC ?_ ?_<;>intro hb) | (refine zK ?_;intro Jo JU JC AH AJ AG))
  refine Aa [] ?_ ?_<;>(have fa:=hT;first | exact AK | (refine zE ?_;try clear fa));rw [if_pos (by omega)]
theorem wQ (l:List Fm) (b:List Int) (me:List Gp) (h1:∀f∈l,f.ks.length≤10) (h2:l.length≤10) (h3:b.length≤10) (h4:me.length≤10):FM Eh l ⟨b,me⟩:=⟨fun f hf=>by have:=h1 f hf;omega,by omega,by decide,by dsimp only;omega,by dsimp only;omega⟩
theorem wM (l:List Fm) (b:List Int) (me:List Gp) {r:List Int} (h1:∀f∈l,f.ks.length≤10) (h2:l.length≤10) (h3:b.length≤10) (h4:me.length≤10) (hr:Hm Eh l ⟨b,me⟩=r):AM Tryz.prog 36 [AO Eh,Bh false l,Cb false ⟨b,me⟩] (AN true r):=by
 have:=GK (wQ l b me h1 h2 h3 h4);rw [hr] at this;exact this
theorem wU (k:Int) {r:List Rg} (hr:Mz Eh Ma ⟨[1,1,3,0],[]⟩ k=r):AM Tryz.prog 28 [AO Eh,Bh false Ma,Cb false ⟨[1,1,3,0],[]⟩,I k] (N0 false r):=by
 have:=K9 k (wQ Ma [1,1,3,0] [] (by decide) (by decide) (by decide) (by decide));rw [hr] at this;exact this
theorem wS (ks:List Int):(Dm ks 34).length≤1000000:=by rw [Do];omega
theorem xB:AM Tryz.prog 28 [AO eO,Bh false Ma, .agg [AN false xK,Bw],I 3] (N0 false [⟨0,[gp 1 0,gp 1 0,gp 1 0,gp 2 27,gp 4 3],4⟩,⟨0,[gp 1 0,gp 1 1,gp 1 1,gp 2 27,gp 4 0],1⟩,⟨0,[gp 2 0,gp 2 1,gp 2 2,gp 2 27,gp 4 3],4⟩]):=by
 have:=K9 (s:=eO) (l:=Ma) (h:=⟨xK,[]⟩) 3 ⟨by decide,by decide,by decide,by simp,wS _⟩;rw [show Mz eO Ma ⟨xK,[]⟩ 3=[⟨0,[gp 1 0,gp 1 0,gp 1 0,gp 2 27,gp 4 3],4⟩,⟨0,[gp 1 0,gp 1 1,gp 1 1,gp 2 27,gp 4 0],1⟩,⟨0,[gp 2 0,gp 2 1,gp 2 2,gp 2 27,gp 4 3],4⟩] by decide +kernel] at this;exact OE (.cons .rfl' (.cons .rfl' (.cons (An.agg (.cons .rfl' (.cons (An.nil false 3) .nil))) (.cons .rfl' .nil)))) this
theorem w9:AM Tryz.prog 36 [AO eO,Bh false Ma, .agg [AN false xT,Bw]] (AN true [0,1,2,3,4,5,6,7,8]):=by
 have:=GK (s:=eO) (l:=Ma) (h:=⟨xT,[]⟩) ⟨by decide,by decide,by decide,by simp,wS _⟩;rw [show Hm eO Ma ⟨xT,[]⟩=[0,1,2,3,4,5,6,7,8] by decide +kernel] at this;exact OE (.cons .rfl' (.cons .rfl' (.cons (An.agg (.cons .rfl' (.cons (An.nil false 3) .nil))) .nil))) this
theorem wY:AM Tryz.prog 63 [AO eO,AN false xK] (EG false xF):=by
 have:=dA eO xK (wS _);rw [show Ec eO xK=xF by decide +kernel] at this;exact this
theorem wL (l:List Int) (h:l.length≤100):AM Tryz.prog 35 [AN false l,AN false l] (B true):=Hs l (by omega)
def xM:Hl:=[(0, .arr 0 1 [.rsl 1 0 0 5, .rsl 2 0 0 5, .rsl 3 0 0 5]),(1, .arr 0 3 [AZ (gp 1 0),AZ (gp 1 0),AZ (gp 1 0),AZ (gp 2 27),AZ (gp 4 3)]),(2, .arr 0 3 [AZ (gp 1 0),AZ (gp 1 1),AZ (gp 1 1),AZ (gp 2 27),AZ (gp 4 0)]),(3, .arr 0 3 [AZ (gp 2 0),AZ (gp 2 1),AZ (gp 2 2),AZ (gp 2 27),AZ (gp 4 3)])]
set_option maxHeartbeats 4000000 in
theorem wX:D3 Tryz.prog 62 [EG false xF, .rsl 0 0 0 3] [(0, .arr 0 1 [.rsl 1 0 0 5, .rsl 2 0 0 5, .rsl 3 0 0 5]),(1, .arr 0 3 [AZ (gp 1 0),AZ (gp 1 0),AZ (gp 1 0),AZ (gp 2 27),AZ (gp 4 3)]),(2, .arr 0 3 [AZ (gp 1 0),AZ (gp 1 1),AZ (gp 1 1),AZ (gp 2 27),AZ (gp 4 0)]),(3, .arr 0 3 [AZ (gp 2 0),AZ (gp 2 1),AZ (gp 2 2),AZ (gp 2 27),AZ (gp 4 3)])] (B true) [(0, .arr 0 1 [.rsl 1 0 0 5, .rsl 2 0 0 5, .rsl 3 0 0 5]),(1, .arr 0 3 [AZ (gp 1 0),AZ (gp 1 0),AZ (gp 1 0),AZ (gp 2 27),AZ (gp 4 3)]),(2, .arr 0 3 [AZ (gp 1 0),AZ (gp 1 1),AZ (gp 1 1),AZ (gp 2 27),AZ (gp 4 0)]),(3, .arr 0 3 [AZ (gp 2 0),AZ (gp 2 1),AZ (gp 2 2),AZ (gp 2 27),AZ (gp 4 3)])]:=by
 have hkl:xF.length=3:=rfl;have G:=fun x (h:x.length≤10)=>Ku x x (by omega)
 have G0:=G [gp 1 0,gp 1 0,gp 1 0,gp 2 27,gp 4 3] (by decide);have qG1:=G [gp 1 0,gp 1 1,gp 1 1,gp 2 27,gp 4 0] (by decide);have G2:=G [gp 2 0,gp 2 1,gp 2 2,gp 2 27,gp 4 3] (by decide);rw [decide_eq_true rfl] at G0 qG1 G2;have n0:Dv (xF.map (AX false)) 0=AX false [gp 1 0,gp 1 0,gp 1 0,gp 2 27,gp 4 3]:=rfl;have n1:Dv (xF.map (AX false)) 1=AX false [gp 1 0,gp 1 1,gp 1 1,gp 2 27,gp 4 0]:=rfl;have n2:Dv (xF.map (AX false)) 2=AX false [gp 2 0,gp 2 1,gp 2 2,gp 2 27,gp 4 3]:=rfl;unfold D3;refine FL 4 Tryz.ntmps62 ?_;let tb:=XD;let lv:=UT;(have fa:=(And.intro hkl @bne_self_eq_false.{0});(repeat' first | refine zQ ?_ | (refine zN ?_;intro K hC hK) | (refine zM ?_;try clear hK hC K) | (refine zC ?_ ?_<;>intro hb) | (refine zK ?_;intro Jo JU JC AH AJ AG))<;>(try clear fa))
 refine Ab 3 (fun k σ=>σ=⟨900,[(0,EG false xF),(1, .rsl 0 0 0 3),(5,I k)],xM⟩) [(0,0),(1,1),(2,2),(3,3)] [(0,0),(1,1),(2,2),(3,3)] 0 [0,1,5] 900 zg zg (by (have fa:= @xM.eq_1;exact zV)) ?_;rintro k σ' hk rfl J hcJ hJ;rcases (show k=0∨k=1∨k=2∨k=3 by omega) with rfl | rfl | rfl | rfl
 ·unfold xM at hJ ⊢;(have fa:=(And.intro n0 hkl);(repeat' first | refine zS G0 ?_ | refine zQ ?_ | (refine zN ?_;intro K hC hK) | (refine zM ?_;try clear hK hC K) | (refine zC ?_ ?_<;>intro hb) | (refine zK ?_;intro Jo JU JC AH AJ AG))<;>(try clear fa))
  exact hJ _ (by omega) (by exact zV)
 ·unfold xM at hJ ⊢;(have fa:=(And.intro n1 hkl);(repeat' first | refine zS qG1 ?_ | refine zQ ?_ | (refine zN ?_;intro K hC hK) | (refine zM ?_;try clear hK hC K) | (refine zC ?_ ?_<;>intro hb) | (refine zK ?_;intro Jo JU JC AH AJ AG))<;>(try clear fa))
  exact hJ _ (by omega) (by exact zV)
 ·unfold xM at hJ ⊢;(have fa:=(And.intro n2 hkl);(repeat' first | refine zS G2 ?_ | refine zQ ?_ | (refine zN ?_;intro K hC hK) | (refine zM ?_;try clear hK hC K) | (refine zC ?_ ?_<;>intro hb) | (refine zK ?_;intro Jo JU JC AH AJ AG))<;>(try clear fa))
  exact hJ _ (by omega) (by exact zV)
 ·unfold xM at hJ ⊢;(have fa:=hkl;(repeat' first | refine zQ ?_ | (refine zN ?_;intro K hC hK) | (refine zM ?_;try clear hK hC K) | (refine zC ?_ ?_<;>intro hb) | (refine zK ?_;intro Jo JU JC AH AJ AG))<;>(try clear fa))
  refine Aa [(0,0),(1,1),(2,2),(3,3)] ?_ ?_<;>(first | exact AK | refine zE ?_)
set_option maxHeartbeats 16000000 in
theorem wR:AM Tryz.prog 15 [] (B true):=by
 have qR0:=aO;have qR1:=wU 0 (r:=[⟨0,[gp 1 0,gp 4 2],0⟩]) (by decide +kernel);have R2:=wU 3 (r:=[]) (by decide +kernel);have qS1:=K3 1 1 3 0;have qG1:=Ku [gp 1 0,gp 4 2] [gp 1 0,gp 4 2] (by simp);rw [decide_eq_true rfl] at qG1;refine zb Tryz.ntmps15 ?_;let tb:=xG;let lv:=w7;(repeat' first | refine zS Gy ?_ | refine zS wT ?_ | refine zS XX ?_ | refine zS Uh ?_ | refine zQ ?_ | (refine zN ?_;intro K hC hK) | (refine zM ?_;try clear hK hC K) | (refine zC ?_ ?_<;>intro hb) | (refine zK ?_;intro Jo JU JC AH AJ AG))
 (have fa:=(And.intro @Ay @bne_self_eq_false.{0});(repeat' first | refine zS RX ?_ | refine zS qS1 ?_ | refine zS qR0 ?_ | refine zS qR1 ?_ | refine zS R2 ?_ | refine zS qG1 ?_ | refine zQ ?_ | (refine zN ?_;intro K hC hK) | (refine zM ?_;try clear hK hC K) | (refine zC ?_ ?_<;>intro hb) | (refine zK ?_;intro Jo JU JC AH AJ AG))<;>(try clear fa))
 have S2:=K3 3 1 0 0;have qS3:=K3 0 0 2 2;have qS4:=K3 1 1 2 0;have qS5:=K3 1 1 1 1;have qS6:=K3 2 1 1 0;have W1:=wM Ma [3,1,0,0] [] (r:=[1,2]) (by decide) (by decide) (by decide) (by decide) (by decide +kernel);have W2:=wM Ma [0,0,2,2] [] (r:=[2,3]) (by decide) (by decide) (by decide) (by decide) (by decide +kernel);have W3:=wM Ma [1,1,2,0] [] (r:=[2]) (by decide) (by decide) (by decide) (by decide) (by decide +kernel);have W4:=wM xY [1,1,1,1] [] (r:=[0,1,2,3]) (by decide) (by decide) (by decide) (by decide) (by decide +kernel);have W5:=wM xY [2,1,1,0] [] (r:=[3]) (by decide) (by decide) (by decide) (by decide) (by decide +kernel);have qQ1:=wL [1,2] (by decide);have qQ2:=wL [2,3] (by decide);have qQ3:=wL [2] (by decide);have qQ4:=wL [0,1,2,3] (by decide);have qQ5:=wL [3] (by decide);(have fa:=(And.intro @Ay @bne_self_eq_false.{0});(repeat' first | refine zS RX ?_ | refine zS wP ?_ | refine zS S2 ?_ | refine zS qS3 ?_ | refine zS qS4 ?_ | refine zS qS5 ?_ | refine zS qS6 ?_ | refine zS W1 ?_ | refine zS W2 ?_ | refine zS W3 ?_ | refine zS W4 ?_ | refine zS W5 ?_ | refine zS qQ1 ?_ | refine zS qQ2 ?_ | refine zS qQ3 ?_ | refine zS qQ4 ?_ | refine zS qQ5 ?_ | refine zQ ?_ | (refine zN ?_;intro K hC hK) | (refine zM ?_;try clear hK hC K) | (refine zC ?_ ?_<;>intro hb) | (refine zK ?_;intro Jo JU JC AH AJ AG))<;>(try clear fa))
 clear qS1 S2 qS3 qS4 qS5 qS6 W1 W2 W3 W4 W5 qQ1 qQ2 qQ3 qQ4 qQ5 qR0 qR1 R2 qG1;have qW6:=wM Ma [0,0,1,0] [⟨3,2,false⟩] (r:=[]) (by decide) (by decide) (by decide) (by decide) (by decide +kernel);have qW7:=Fw (wQ Ma [0,0,0,2] [⟨1,0,true⟩] (by decide) (by decide) (by decide) (by decide));rw [show Ug Eh Ma ⟨[0,0,0,2],[⟨1,0,true⟩]⟩=true by decide +kernel] at qW7;have qL1:AM Tryz.prog 70 [AN false [0,0,0,1,1,1,2,2,2,3,3,27,27,27]] (AN true xK):=wN _ (by unfold D8;decide) (by decide);have qL2:AM Tryz.prog 70 [AN false [0,0,0,1,2,3,4,5,6,7,8,8,8]] (AN true xT):=wN _ (by unfold D8;decide) (by decide);have qQ6:=wL [0,1,2,3,4,5,6,7,8] (by decide);(have fa:=(And.intro @Ay @bne_self_eq_false.{0});(repeat' first | refine zS RX ?_ | refine zS qW6 ?_ | refine zS qW7 ?_ | refine zJ (tg [3424]) (wK 0 0 1 0 ⟨3,2,false⟩) ?_ | refine zJ (tg [3568]) (wK 0 0 0 2 ⟨1,0,true⟩) ?_ | refine zQ ?_ | (refine zN ?_;intro K hC hK) | (refine zM ?_;try clear hK hC K) | (refine zC ?_ ?_<;>intro hb) | (refine zK ?_;intro Jo JU JC AH AJ AG))<;>(try clear fa))
 (have fa:=(And.intro @Ay @bne_self_eq_false.{0});(repeat' first | refine zS RX ?_ | refine zS qL1 ?_ | refine zS qL2 ?_ | refine zS wY ?_ | refine zJ (tg [4912,4704,4800,4896]) wX ?_ | refine zS xB ?_ | refine zS w9 ?_ | refine zS qQ6 ?_ | refine zQ ?_ | (refine zN ?_;intro K hC hK) | (refine zM ?_;try clear hK hC K) | (refine zC ?_ ?_<;>intro hb) | (refine zK ?_;intro Jo JU JC AH AJ AG))<;>(try clear fa))
 refine Aa [] ?_ ?_<;>(first | exact AK | refine zE ?_)
theorem wO (W:World):Calls Tryz.prog 15 #[] W (OF W (.bool true)):=by
 refine T0 wR ⟨rfl,fun i x y hx hy=> ?_⟩;simp at hx
end Go.Proofs.YthblfhgofopcaaaGreat
