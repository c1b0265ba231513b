/-
  Parts of the proof: Ext, ApL, Frame, Frame1, FrmS, FrmH, FrmP, InK, Into, RdP, MoreL, TakeL, TrnA, TrnB, TrnC, TrnD, WaitL, TrnE, TrnF, TrnG, TrnH, Ris, Swp, TurW, TurH, TurP.
-/
import Derived.Test.YthblfhgofopcaaaGreatSH08
import Derived.Test.YthblfhgofopcaaaGreatSH15
import Derived.Test.YthblfhgofopcaaaGreatSH17
import Derived.Test.YthblfhgofopcaaaGreatTU17
import Derived.Test.YthblfhgofopcaaaGreatRows
import Derived.Test.YthblfhgofopcaaaGreatSH01
import Derived.ProofKit
import Derived.OpenShut
import Derived.ShutString
import Derived.ChangeOld
import Derived.Below
import Derived.Lib.SmallJoins
import Derived.Deep.Slices
import Derived.Test.YthblfhgofopcaaaGreatSH09
import Derived.Deep.Fields
import Derived.ChangeSame
import Derived.Test.YthblfhgofopcaaaGreatSH13
import Derived.Test.YthblfhgofopcaaaGreatSH14
import Derived.Test.YthblfhgofopcaaaGreatSH18
import Derived.Test.YthblfhgofopcaaaGreatTU22
import Derived.Sort.QuietIn
import Derived.Sort.CutIn
import Derived.Outline
set_option linter.all false
namespace Go.Proofs.YthblfhgofopcaaaGreat
open Go.RowKit
set_option maxRecDepth 100000
@[go_sem] theorem ABY:Tryz.f16.results.toList=[.tmp 8]:=rfl
@[go_sem] theorem ABV:Tryz.f26.results.toList=[.tmp 4]:=rfl
@[go_sem] theorem ABW:Tryz.f71.results.toList=[.cell 8 3]:=rfl
@[go_sem] theorem ABc:Tryz.f72.results.toList=[.tmp 4]:=rfl
@[go_sem] theorem ABZ:Tryz.f73.results.toList=[.tmp 2]:=rfl
@[go_sem] theorem ABb:Tryz.f74.results.toList=[.tmp 4]:=rfl
@[go_sem] theorem ABX:Tryz.f75.results.toList=[.cell 4 31]:=rfl
@[go_sem] theorem ABU:Tryz.f128.results.toList=[.tmp 2]:=rfl
def ABB:List (Nat×List Nat×List Nat):=[(19,[0,1,2,3,4,5,6,7,8,9,10,11,13,14,15,16,17,12,18,19,20,21],[0,0,0,6,14,30,0,0,192,448,960,0,4032,0,0,24576,57344,122880,262142,524286,1048575,2097151]),(28,[0,1,2,3,6,7,8,9,10,11,12,4,5,13,14,15],[0,0,0,0,15,31,0,0,0,0,0,1536,3584,8159,16351,32767]),(31,[0,1,2,4,6,7,8,9,3,5,10,11,12,13,14,15,16],[0,0,0,7,0,31,0,0,0,0,831,2047,4095,8191,16383,32767,65535])]
def ABC:List (Nat×List Nat×List Nat):=[]
def yX:List (Nat×List Nat×List Nat):=[]
def AA7:List (Nat×List Nat×List Nat):=[(4,[0,1,2,3,4,5,6,7,8,9],[0,1,0,7,15,0,32,96,224,511])]
def ABD:List (Nat×List Nat×List Nat):=[]
def AA6:List (Nat×List Nat×List Nat):=[(5,[0,1,2,3,4,5,6,7,8,9,10,11,12],[0,1,0,0,12,28,0,64,0,448,960,2047,4095]),(11,[0,1,2,3,4,5,6,7,8,9,10,11,12,13],[0,0,2,7,15,0,0,64,192,480,992,2047,4095,8191])]
def zL:List (Nat×List Nat×List Nat):=[(6,[0,1,2,3,4,5,6,7,8,9,10,11,12,13],[0,1,3,7,7,31,63,7,7,263,903,1927,4095,8191]),(8,[0,1,2,3,5,6,7,8,9,11,12,13,4,10,14,15],[0,0,0,6,15,0,0,96,224,480,1023,0,0,6144,16383,32767])]
def AAj:List (Nat×List Nat):=[(0,[0,1,2,3]),(1,[1,2,3,9,10,11,12]),(2,[1,2,3,9,10,11,12]),(3,[1,2,3,9,10,11,12,13]),(4,[1,2,3,9,10,11,12,13,14]),(5,[1,2,3,9,10,11,12,13,14,37]),(6,[1,2,3,9,10,11,12,13,14]),(7,[1,2,3,9,10,11,12,13,14,15]),(8,[1,2,3,9,10,11,12,13,14,15,45]),(9,[1,2,3,9,10,11,12,13,14,15]),(10,[1,2,3,9,10,11,12,13,14,15,57]),(11,[8]),(12,[1,2,3,9,10,11,12,13,14]),(13,[3,9,10,11,12,13,16,17]),(14,[3,9,10,11,12,13,16,17,18]),(15,[3,9,10,11,12,13,16,17,18,65]),(16,[3,9,10,11,12,13,16,17,18]),(17,[3,9,10,11,12,13,16,17,18,81]),(18,[3,9,10,11,12,13,16,17,18]),(19,[3,9,10,11,12,13,16,17,18]),(20,[9,10,12,13,16,17,112]),(21,[8]),(22,[9,10,12,13,16,17,19]),(23,[9,10,12,13,16,17,19,126]),(24,[8]),(25,[9,10,12,13,16,17,19,20]),(26,[9,10,12,13,16,17,19,20,131]),(27,[9,10,12,13,16,17,19,20]),(28,[9,10,12,13,16,17,19,20,149]),(29,[8]),(30,[10,13,16,17,21]),(31,[8])]
def AAo:List (Nat×List Nat):=[(0,[0,1]),(1,[0,1]),(2,[0,1,9]),(3,[0]),(4,[4])]
def xY:List (Nat×List Nat):=[(0,[1,2]),(1,[1,2,5,6]),(2,[1,2,5,6,13]),(3,[4]),(4,[1,2,5,6,16]),(5,[4]),(6,[4])]
def AAk:List (Nat×List Nat):=[(0,[1]),(1,[1,3]),(2,[1,3,8]),(3,[1,3]),(4,[1,3,20]),(5,[2]),(6,[2])]
def AAn:List (Nat×List Nat):=[(0,[0,1]),(1,[0,1,5]),(2,[0,1,5,6]),(3,[0,1,5,6,10]),(4,[0,1,5,6]),(5,[0,1,5,6,26]),(6,[0,1,5,6]),(7,[0,1,5,6]),(8,[4])]
def AAq:List (Nat×List Nat):=[(0,[1,2,4]),(1,[1,2,4,5]),(2,[1,2,4,5,6]),(3,[1,2,4,5,6,18]),(4,[1,2,4,5,6]),(5,[1,2,4,5,6]),(6,[1,2,4,5,7]),(7,[1,2,4,5,7,37]),(8,[1,2,4,5,7]),(9,[1,2,4,5,7,8]),(10,[1,2,4,5,7,8,47]),(11,[1,2,4,5,7,8]),(12,[1,2,4,5,7,8]),(13,[1,2,4,5,7]),(14,[4])]
def yD:List (Nat×List Nat):=[(0,[0]),(1,[0,3]),(2,[0,3,4]),(3,[0,3,4,9]),(4,[0,3,4]),(5,[0,3,4,5]),(6,[0,3,4,5,27]),(7,[0,3,4,5]),(8,[0,3,4]),(9,[2])]
def A3 (s:AL) (k:Int):Int:=if (Bm s k).1= -4 then -1 else if (Bm s k).1<0 then k else k+XJ s (Bm s k).1-1-2*(Bm s k).2
section
variable {inv:Nat→Option Nat} {f:Bool}
@[go_sem] theorem AAt (m:Fm):(DN f m).low=DN false m:=by simp only [DN,AV.low,lowL,Vs]
@[go_sem] theorem ABQ (l:List Fm):lowL (l.map (DN f))=l.map (DN false):=M0 AAt l
@[go_sem] theorem AAc (m:Rg):(Hi true m).allT=true:=by simp only [Hi,AV.allT,allTL,iU];rfl
@[go_sem] theorem ABL (m:Hd):(Cb true m).allT=true:=by simp only [Cb,AV.allT,allTL,ZP,iU];rfl
end
end Go.Proofs.YthblfhgofopcaaaGreat

namespace Go.Proofs.YthblfhgofopcaaaGreat
structure yP (bag:List Int) (c:List Gp):Prop where
 cl:Cl c
 sg:SG c
 ct:∀i,B7 c i=bag.getD i 0
theorem xH (g:Gp) (i:Nat):∀m:Nat,B7 (List.replicate m g) i=m*Di g i
 | 0=>by simp [B7]
 | m+1=>by
  rw [List.replicate_succ,B7,xH g i m];have:((m+1:Nat):Int)=m+1:=by omega
  rw [this,Int.add_mul];omega
theorem ABA (k:Int) (i:Nat):Di (gp 5 k) i=if k=(i:Int) then 1 else 0:=by
 show Cz [k] i=_;rw [BW];show Cz [] i+_=_;simp [Cz]
theorem ABR (k:Int) (i:Nat):Di (gp 4 k) i=if k=(i:Int) then 2 else 0:=by
 show Cz [k,k] i=_;rw [BW,BW];show Cz [] i+_+_=_;simp [Cz];split<;>omega
theorem AAJ {w:Int} {l m:List Gp} {k:Nat} (hl:SG l) (h:∀g∈l,∃j:Nat,j<k∧(g=gp 5 j∨g=gp 4 j)) (hm:∀g∈m,g=gp w k) (hw:w=5∨w=4) (hs:∀g∈l,g.wh=w):SG (l++m):=by
 unfold SG;rw [List.pairwise_append];refine ⟨hl,?_,fun a ha b hb=> ?_⟩
 ·refine List.pairwise_of_forall_mem_list fun a ha b hb=> ?_
  rw [hm a ha,hm b hb,O0];exact Int.le_refl _
 ·obtain ⟨j,hj,e⟩:=h a ha;have h1:=hs a ha;have e2:=hm b hb;have h3:=A2 a b;have h4:b.wh=w:=by rw [e2]
  have h5:b.kd=k:=by rw [e2]
  have h6:a.kd=j:=by rcases e with e|e<;>rw [e]
  omega
theorem x7 (bag:List Int):∀k,SG (DH bag k)
 | 0=>List.Pairwise.nil
 | k+1=>by
  rw [DH];refine AAJ (w:=5) (k:=k) (x7 bag k) (fun g hg=> ?_) (fun g hg=>List.eq_of_mem_replicate hg) (.inl rfl) fun g hg=> ?_
  ·obtain ⟨j,hj,e⟩:=UP hg;exact ⟨j,hj, .inl e⟩
  ·obtain ⟨j,_,e⟩:=UP hg;rw [e]
theorem zI (bag:List Int):∀k,SG (FB bag k)
 | 0=>List.Pairwise.nil
 | k+1=>by
  rw [FB];refine AAJ (w:=4) (k:=k) (zI bag k) (fun g hg=> ?_) (fun g hg=>List.eq_of_mem_replicate hg) (.inr rfl) fun g hg=> ?_
  ·obtain ⟨j,hj,e⟩:=Qr hg;exact ⟨j,hj, .inr e⟩
  ·obtain ⟨j,_,e⟩:=Qr hg;rw [e]
theorem yF {bag:List Int} (hb:∀i,0≤bag.getD i 0) (i:Nat):∀k,B7 (DH bag k) i=if i<k then bag.getD i 0 else 0
 | 0=>by simp [DH,B7]
 | k+1=>by
  rw [DH,RC,yF hb i k,xH,ABA];have:=hb k;by_cases h:k=i
  ·subst h;rw [if_neg (by omega),if_pos rfl,if_pos (by omega)];omega
  ·rw [if_neg (show ¬(k:Int)=(i:Int) by omega)];by_cases h2:i<k
   ·rw [if_pos h2,if_pos (by omega)];omega
   ·rw [if_neg h2,if_neg (by omega)];omega
theorem zT {bag:List Int} (hb:∀i,0≤bag.getD i 0) (he:∀i,i<bag.length→bag.getD i 0 % 2=0) (i:Nat):∀k,k≤bag.length→B7 (FB bag k) i=if i<k then bag.getD i 0 else 0
 | 0,_=>by simp [FB,B7]
 | k+1,hk=>by
  rw [FB,RC,zT hb he i k (by omega),xH,ABR];have:=hb k;have:=he k (by omega);by_cases h:k=i
  ·subst h;rw [if_neg (by omega),if_pos rfl,if_pos (by omega)];omega
  ·rw [if_neg (show ¬(k:Int)=(i:Int) by omega)];by_cases h2:i<k
   ·rw [if_pos h2,if_pos (by omega)];omega
   ·rw [if_neg h2,if_neg (by omega)];omega
theorem yZ {bag:List Int} (hb:∀i,0≤bag.getD i 0) (he:∀i,i<bag.length→bag.getD i 0≤2) (i:Nat):∀k,k≤bag.length→B7 (ET bag k) i=if i<k then bag.getD i 0 else 0
 | 0,_=>by simp [ET,B7]
 | k+1,hk=>by
  rw [ET,RC,yZ hb he i k (by omega)];have h0:=hb k;have h2:=he k (by omega);have hx:B7 (if bag.getD k 0=1 then [gp 5 k] else if bag.getD k 0=2 then [gp 4 k] else []) i=if k=i then bag.getD k 0 else 0:=by
   by_cases c1:bag.getD k 0=1
   ·rw [if_pos c1];show Di (gp 5 k) i+0=_;rw [ABA,c1];by_cases h:k=i
    ·subst h;simp
    ·rw [if_neg (show ¬(k:Int)=(i:Int) by omega),if_neg h];rfl
   ·rw [if_neg c1];by_cases c2:bag.getD k 0=2
    ·rw [if_pos c2];show Di (gp 4 k) i+0=_;rw [ABR,c2];by_cases h:k=i
     ·subst h;simp
     ·rw [if_neg (show ¬(k:Int)=(i:Int) by omega),if_neg h];rfl
    ·rw [if_neg c2];show (0:Int)=_;split<;>omega
  rw [hx];by_cases h:k=i
  ·subst h;rw [if_neg (by omega),if_pos rfl,if_pos (by omega)];omega
  ·rw [if_neg h];by_cases h2:i<k
   ·rw [if_pos h2,if_pos (by omega)];omega
   ·rw [if_neg h2,if_neg (by omega)];omega
theorem yV {bag:List Int} (i:Nat):(if i<bag.length then bag.getD i 0 else 0)=bag.getD i 0:=by
 by_cases h:i<bag.length
 ·rw [if_pos h]
 ·rw [if_neg h];simp [h]
theorem AAN {bag:List Int} (hb:∀i,0≤bag.getD i 0):yP bag (Hp bag) :=
 ⟨fun g hg=>by obtain ⟨j,_,e⟩:=UP hg;rw [e],x7 bag _,fun i=>by unfold Hp;rw [yF hb,yV]⟩
theorem ABN {bag:List Int} (hb:∀i,0≤bag.getD i 0) (he:∀i,i<bag.length→bag.getD i 0 % 2=0):yP bag (g7 bag) :=
 ⟨fun g hg=>by obtain ⟨j,_,e⟩:=Qr hg;rw [e],zI bag _,fun i=>by unfold g7;rw [zT hb he i _ (Nat.le_refl _),yV]⟩
theorem AA8 {bag:List Int} (hb:∀i,0≤bag.getD i 0) (he:∀i,i<bag.length→bag.getD i 0≤2):yP bag (CX (ET bag bag.length)) :=
 ⟨fun g hg=>by
  obtain ⟨j,_,e⟩:=Rp ((BV _).subset hg)
  rcases e with e|e<;>rw [e],HV _,fun i=>by rw [EK (BV _),yZ hb he i _ (Nat.le_refl _),yV]⟩
theorem AAU (i:Nat):∀ks,B7 (KZ ks) i=Cz ks i
 | []=>rfl
 | k::ks=>by
  show Di (gp 5 k) i+B7 (KZ ks) i=_;rw [ABA,AAU i ks,BW];omega
theorem yR:∀{ks:List Int},GR ks→SG (KZ ks)
 | [],_=>List.Pairwise.nil
 | k::ks,h=>by
  have h:=List.pairwise_cons.1 h;refine List.pairwise_cons.2 ⟨fun g hg=> ?_,yR h.2⟩;obtain ⟨z,hz,rfl⟩:=List.mem_map.1 hg;have:=h.1 z hz;have h3:=A2 (gp 5 k) (gp 5 z);dsimp only at h3;omega
theorem ABP {s:AL} {f:Fm} {h:Hd} (hf:Az s f=0) (hU:Am s h=true):SL (Hf s h f)∧∀c∈Hf s h f,yP h.bag c:=by
 obtain ⟨ho,hsum⟩:=Pt hU;have F:=Nf hf;have V:=AU ho.va;have hme:=V.me;have hco:=V.co;have hmm:=ho.mm;obtain ⟨b1,b2,b3⟩:=Mx ho.va ho.cn;have nw:=F.nw;have hw:=F.wh;unfold Cs at nw;have hr:C7 h.bag.length (AT s):=fun k h=>by have:=Ct h;omega
 have hbg:Bg h.bag.length h.bag:=⟨rfl,fun i=>(b1 i).1⟩;have hb0:∀i,0≤h.bag.getD i 0:=fun i=>(b1 i).1
 have nil:SL ([]:List (List Gp))∧∀c∈([]:List (List Gp)),yP h.bag c:=⟨List.Pairwise.nil,fun c hc=>by cases hc⟩;have one:∀x,yP h.bag x→SL [x]∧∀c∈[x],yP h.bag c:=fun x hx=>⟨List.pairwise_singleton ..,fun c hc=>by simp at hc;subst hc;exact hx⟩
 unfold Hf;by_cases hm:(h.me.length:Int)≤He s f
 ·rw [if_pos hm];unfold QP;have hw' :f.wh=1∨f.wh=2∨f.wh=3∨f.wh=4∨f.wh=5∨f.wh=6:=by omega
  rcases hw' with hw|hw|hw|hw|hw|hw<;>rw [hw]
  ·rw [if_pos rfl];obtain ⟨h1,h2⟩:=Fb hr hbg (f:=20) (by omega);exact ⟨h1,fun c hc=>⟨((h2 c).1 hc).cl,((h2 c).1 hc).sg,((h2 c).1 hc).ct⟩⟩
  ·rw [if_neg (by decide),if_pos rfl];unfold EW;split
   ·exact nil
   ·rename_i hb;refine one _ (ABN hb0 fun i hi=> ?_);have e:h.bag.getD i 0=h.bag[i]:=by simp [hi]
    have:Iy f.ag h.bag[i]=false:=by
     cases hc:Iy f.ag h.bag[i] with
     | false=>rfl
     | true=>exact absurd (EX hi hc) hb
    unfold Iy at this;simp only [Bool.or_eq_false_iff,decide_eq_false_iff_not] at this;rw [e];omega
  ·rw [if_neg (by decide),if_neg (by decide),if_pos rfl];unfold I9;split
   ·rename_i hg;have hg:=IV.1 hg;exact one _ (AA8 hb0 fun i hi=>(hg i hi).2)
   ·exact nil
  ·rw [if_neg (by decide),if_neg (by decide),if_neg (by decide),if_pos rfl];unfold Gm;split
   ·exact one _ (AAN hb0)
   ·exact nil
  ·rw [if_neg (by decide),if_neg (by decide),if_neg (by decide),if_neg (by decide),if_pos rfl];have h9:s.su=[9,9,9]:=by
    by_cases h:s.su=[9,9,9]
    ·exact h
    ·exact absurd (.inr (.inr (.inr (.inr (.inl ⟨hw, .inl h⟩))))) nw
   have h27:27≤h.bag.length:=by
    have h1:=F1 ho.va;have h2:=V.wi;have h3:=V.dr;have:AQ s=s.wi+s.dr+27:=by unfold AQ;rw [h9];rfl
    omega
   obtain ⟨S,p1,p2⟩:=Qq (Ln (AT s) 20 JR h.bag);obtain ⟨e,hsl⟩:=YS hr hbg (by omega) (fun w hw=>by
    obtain ⟨a,b,c,rfl,ha,hb,hc⟩:=Gq w hw
    exact ⟨Qf ha hb hc,SW ha hb hc h27⟩) (fun a ha b hb e=>Td a ha b hb e) p1 p2
   refine ⟨hsl,fun x hx=> ?_⟩;rw [←e] at hx;have:=p1.subset hx;unfold Ln at this;obtain ⟨w,hw,hx⟩:=List.mem_flatMap.1 this;obtain ⟨a,b,c,rfl,ha,hb,hc⟩:=Gq w hw;have hin:=SW (n:=h.bag.length) ha hb hc h27;unfold HK at hx;rcases C5 _ h.bag hin hb0 with ⟨h1,h2⟩|⟨h1,_⟩
   ·rw [h1] at hx;dsimp only at hx;have hbd:=hbg.dec hin h2;have hsum2:=Ck _ h.bag hin;obtain ⟨l,hl,rfl⟩:=List.mem_map.1 hx;have hx:=((Fb hr hbd (f:=20) (by omega)).2 l).1 hl;have h4:=dM hx;refine ⟨fun g hg=> ?_,?_,fun i=> ?_⟩
    ·rcases List.mem_append.1 hg with hg|hg
     ·exact hx.cl g hg
     ·exact Xx _ g hg
    ·unfold SG;rw [List.pairwise_append];refine ⟨hx.sg,yR (Qf ha hb hc),fun g hg y hy=> ?_⟩;have h5:=h4 g hg;have h6:=gP _ y hy;have h7:=A2 g y;omega
    ·rw [RC,hx.ct,AAU,BF _ _ hin];omega
   ·rw [h1] at hx;cases hx
  ·rw [if_neg (by decide),if_neg (by decide),if_neg (by decide),if_neg (by decide),if_neg (by decide)];unfold Ni;split
   ·exact one _ (AAN hb0)
   ·exact nil
 ·rw [if_neg hm];exact nil
end Go.Proofs.YthblfhgofopcaaaGreat

namespace Go.Proofs.YthblfhgofopcaaaGreat
open Go.RowKit Go.ChangeShapes Go.WideShapes Go.ChangeAt
theorem Rb:ownKnob Tryz.prog.godebug=none:=by kernel_rfl
theorem FH:laidOutB Tryz.prog=true:=by kernel_rfl
theorem WM:Tryz.prog.cellsOf 3=1:=by kernel_rfl
theorem OA {w:World} {x:Addr} {l c:Nat} {zs:List Int} (hl:l≤c) (hm:c≤maxLen) (hz:zs.length=c) (hcell:∀i,i<zs.length→w.cell? (x.add i)=some (.int .i64 (zs.getD i 0))) :
  BO w (.slice (some x) l c) (zs.take l):=by
 refine ⟨some x,c,by rw [List.length_take,Nat.min_eq_left (by omega)],by rw [List.length_take];omega,hm,fun i u hu=> ?_⟩;have hi:=(List.getElem?_eq_some_iff.1 hu).1;simp only [Ke,List.length_map,List.length_take] at hi;have hc:=hcell i (by omega);refine ⟨x,rfl,?_,?_⟩
 ·have:=World.block_lt_of_cell? w _ hc;rwa [Iq] at this
 ·rw [hc,←hu];have h2:i<zs.length:=by omega
  simp [List.getD,h2,show i<l by omega]
section
variable {H:Type} {enc:TypeId×Value→H} {W:World} {spare:Nat→Bool} {held:Bool}
theorem DE {t:TypeId} {fuel:Nat} {v:Value} {x:DataW H×List MemPlace} (ht:Tryz.prog.underlying t=some (.slice 3)) (h:DataW.trod enc Tryz.prog W 0 spare held fuel t [v]=some x) (hs:spare=fun _=>true) :
  ∃zs,BO W v zs∧∀z∈zs,(Lit.int .i64 z).wf=true:=by
 subst hs;rcases open_ints ht Tryz.underlying3 WM h with ⟨hcs,_⟩|⟨a,l,c,zs,hcs,_,hl,hm,hz,_,hcell,hwz⟩
 ·simp at hcs;subst hcs;exact ⟨[],BO.nil,by simp⟩
 ·simp at hcs;subst hcs;exact ⟨zs.take l,OA hl hm (by simpa using hz) hcell,fun z hz=>hwz z (List.mem_of_mem_take hz)⟩
end
end Go.Proofs.YthblfhgofopcaaaGreat

namespace Go.Proofs.YthblfhgofopcaaaGreat
open Go.Joins Go.ChangeShapes Go.WideShapes Go.RowKit Go.Deep
set_option maxRecDepth 100000
def cI (W:World):Cx:=⟨W,fun _=>0,fun _=>false,fun _=>False,fun _=>True,W.heap.size⟩
theorem jU (W:World):BH (cI W) (lk [] .nil):=⟨(fun r g sz es h=>by cases h),(fun r g sz es h=>by cases h),(fun r r' g g' sz sz' es es' h=>by cases h)⟩
theorem WA (W:World) {b:Nat} (hb:b<W.heap.size):Dx (cI W) (lk [] .nil) false b:=⟨hb,(by rintro ⟨r,g,sz,es,h,_⟩;cases h), .inr (.inr ⟨rfl,trivial⟩)⟩
theorem Io {W:World} {a:Addr} {u:Value} (h:W.cell? a=some u):a=⟨a.block,a.off,none⟩:=by
 obtain ⟨b,o,sp⟩:=a;cases sp with
 | none=>rfl
 | some k =>
  unfold World.cell? at h;split at h<;>simp at h
theorem ER {W:World} {v:Value} {zs:List Int} (h:BO W v zs):AS (cI W) (lk [] .nil) (AN false zs) v:=by
 obtain ⟨A,c,rfl,h1,h2,h3⟩:=h;cases zs with
 | nil=>exact .slE false 1 A c h2
 | cons z l =>
  obtain ⟨ad,rfl,hb,hc⟩:=h3 0 (.int .i64 z) rfl;have e0:ad.add 0=ad:=rfl;rw [e0] at hc;obtain ⟨b,o,rfl⟩:∃b o,ad=⟨b,o,none⟩:=⟨_,_,Io hc⟩;have hl:(z::l).length=((z::l).map I).length:=by simp
  rw [hl];have dest:∀(i:Nat) (e:AV),((z::l).map I)[i]? =some e→∃y,(z::l)[i]? =some y∧e=I y:=fun i e he=>by
   rw [List.getElem?_map] at he;cases hz:(z::l)[i]? with
   | none=>rw [hz] at he;cases he
   | some y =>
    rw [hz] at he;injection he with he
    exact ⟨y,rfl,he.symm⟩
  refine .sl false 1 ((z::l).map I) b o c (fun i _=> .int .i64 ((z::l).getD i 0)) (by rw [List.length_map];exact h1) h2 (WA W hb) (fun i e he=> ?_) (fun i e j x he hx=> ?_) (fun i e j x he hx=> ?_)
  ·obtain ⟨y,hz,rfl⟩:=dest i e he;rfl
  ·obtain ⟨y,hz,rfl⟩:=dest i e he;obtain ⟨ad',e',hb',hc'⟩:=h3 i (.int .i64 y) (by rw [Ke,List.getElem?_map,hz];rfl);injection e' with e'
   subst e';have hj:j=0:=by
    cases j with
    | zero=>rfl
    | succ j=>simp [AV.cs,I] at hx
   subst hj;rw [Addr.add_lit] at hc';show W.cell? ⟨b,o+i*1+0,none⟩=_;rw [List.getD_eq_getElem?_getD,hz];simpa using hc'
  ·obtain ⟨y,hz,rfl⟩:=dest i e he;have hj:j=0:=by
    cases j with
    | zero=>rfl
    | succ j=>simp [AV.cs,I] at hx
   subst hj;simp [AV.cs,I] at hx;subst hx;rw [List.getD_eq_getElem?_getD,hz];exact .v _
theorem T0 {f:Nat} {ys:List AV} (h:AM Tryz.prog f ys (B true)) {W:World} {vals:Array Value} (hr:QX (cI W) (lk [] .nil) ys vals):Calls Tryz.prog f vals W (OF W (.bool true)):=by
 refine (h.2 (cI W) vals rfl (jU W) hr).mono ?_;rintro e w' ⟨v,x,hl,c',rfl,rfl,⟨rfl,rfl⟩,k,_,rv⟩;have:=As rv;subst this;refine ⟨rfl,?_⟩;exact ⟨k.os,k.tape,k.output,k.size,fun b hb=>k.blk b hb (by rintro ⟨r,g,sz,es,h,_⟩;cases h)⟩
end Go.Proofs.YthblfhgofopcaaaGreat

namespace Go.Proofs.YthblfhgofopcaaaGreat
open Go.Joins Go.ChangeShapes Go.WideShapes Go.RowKit Go.Deep Go.ChangeAt
theorem NA {W:World} {v:Value} {zs:List Int} (h:BO W v zs):zs.length≤9223372036854775807:=by
 obtain ⟨_,_,_,h1,h2,_⟩:=h;unfold maxLen at h2;omega
end Go.Proofs.YthblfhgofopcaaaGreat

namespace Go.Proofs.YthblfhgofopcaaaGreat
open Go.RowKit
set_option maxRecDepth 100000
set_option maxHeartbeats 2000000
theorem xN (n m:Int) (h0:0<m) (h1:m≤1000000000):AM Tryz.prog 26 [I n,I m] (I (n % m)):=by
 have hm:=Int.emod_nonneg n (show m≠0 by omega);have hl:=Int.emod_lt_of_pos n h0;have ht:n.tmod m=n % m∨(n.tmod m<0∧n.tmod m+m=n % m):=by
  rw [Int.tmod_eq_emod];split
  ·left;omega
  ·right;have:(m.natAbs:Int)=m:=by omega
   rw [this];omega
 obtain ⟨z,hz⟩:∃z,n.tmod m=z:=⟨_,rfl⟩;obtain ⟨y,hy⟩:∃y,n % m=y:=⟨_,rfl⟩;rw [hz,hy] at ht;rw [hy] at hm hl ⊢;have hne:¬m=0:=by omega
 refine zb Tryz.ntmps26 ?_;let tb:=ABC;let lv:=AAo;(have fa:=hz;(repeat' first|refine zQ ?_|refine zN ?_;intro K hC hK|refine zM ?_;try clear hK hC K|refine zC ?_ ?_<;>intro hb|refine zK ?_;intro Jo JU JC AH AJ AG)<;>(try clear fa))
 ·obtain rfl:y=z+m:=by omega
  refine Aa [] ?_ ?_<;>(first|exact AK|refine zE ?_)
 ·obtain rfl:y=z:=by omega
  refine Aa [] ?_ ?_<;>(first|exact AK|refine zE ?_)
def Ug (s:AL) (l:List Fm) (h:Hd):Bool:=Dn s h (Hf s h) l
def Hm (s:AL) (l:List Fm) (h:Hd):List Int:=DC s h l fun k=>Dn s ⟨Aq h.bag k,h.me⟩ (Hf s ⟨Aq h.bag k,h.me⟩) l
structure FM (s:AL) (l:List Fm) (h:Hd):Prop where
 f:∀f∈l,f.ks.length≤1000000
 l:l.length≤1000000
 s:s.su.length≤1000000
 m:h.me.length≤1000000
 b:h.bag.length≤1000000
theorem HW {s:AL} {l:List Fm} {h:Hd} (hf:Ch s l h=true):∀f∈l,Az s f=0:=by
 unfold Ch at hf;simp only [Bool.and_eq_true,decide_eq_true_eq] at hf;exact (Ht hf.1).2.2
theorem Fw {s:AL} {l:List Fm} {h:Hd} (S:FM s l h):AM Tryz.prog 33 [AO s,Bh false l,Cb false h] (B (Ug s l h)) :=
 OD s h (Hf s h) l S.f S.l S.s S.m S.b fun hf hu f hm=>LU s f h (HW hf f hm) hu
theorem GK {s:AL} {l:List Fm} {h:Hd} (S:FM s l h):AM Tryz.prog 36 [AO s,Bh false l,Cb false h] (AN true (Hm s l h)) :=
 M2 s h l _ S.f S.l S.s S.m S.b fun _ k _=>Fw (s:=s) (l:=l) (h:=⟨Aq h.bag k,h.me⟩) ⟨S.f,S.l,S.s,S.m,by dsimp only;rw [Cy];exact S.b⟩
def Mz (s:AL) (l:List Fm) (h:Hd) (last:Int):List Rg:=GI s h (Hf s h) l last
@[go_sem] theorem ABJ (l:List Rg):allTL (l.map (Hi true))=true:=VX (fun m=>AAc m) l
theorem wL {s:AL} {l:List Fm} {h:Hd} (last:Int) (S:FM s l h):AM Tryz.prog 28 [AO s,Bh false l,Cb false h,I last] (N0 true (Mz s l h last)) :=
 M5 s h (Hf s h) l last S.f S.l S.s S.m S.b fun hf hu f hm=>⟨Nm (HW hf f hm) hu,LU s f h (HW hf f hm) hu⟩
theorem wX {s:AL}:∀{l:List Fm},(∀f∈l,Az s f=0)→El s l=0
 | [],_=>rfl
 | f::l,h=>by
  have h1:=h f (by simp);rw [El,if_neg (by omega),wX fun g hg=>h g (by simp [hg])]
theorem xF {s:AL} {l:List Fm} (hv:AP s=0) (h0:0<l.length) (h8:l.length≤8) (h:∀f∈l,Az s f=0):A6 s l=0:=by
 unfold A6;rw [if_neg (by omega),if_neg (by omega),if_neg (by omega),wX h]
end Go.Proofs.YthblfhgofopcaaaGreat

namespace Go.Proofs.YthblfhgofopcaaaGreat
end Go.Proofs.YthblfhgofopcaaaGreat

namespace Go.Proofs.YthblfhgofopcaaaGreat
open Go.RowKit
theorem xI {α β:Type} (R:α→β→Prop):∀(l:List α) (m:List β),l.Nodup→(∀a∈l,∃b∈m,R a b)→(∀a∈l,∀a' ∈l,∀b,R a b→R a' b→a=a')→l.length≤m.length
 | [],m,_,_,_=>Nat.zero_le _
 | a::l,m,hn,ht,hi=>by
  obtain ⟨hn1,hn2⟩:=List.nodup_cons.1 hn;obtain ⟨b,hb,hab⟩:=ht a (by simp);obtain ⟨s,t,rfl⟩:=List.append_of_mem hb;have:=xI R l (s++t) hn2 (fun a' ha' =>by
   obtain ⟨b',hb',hab'⟩:=ht a' (by simp [ha'])
   have hne:b' ≠b:=fun e=>by
    subst e
    have:=hi a (by simp) a' (by simp [ha']) b' hab hab'
    subst this
    exact hn1 ha'
   refine ⟨b',?_,hab'⟩
   simp at hb' ⊢
   rcases hb' with h|h|h
   ·exact .inl h
   ·exact absurd h hne
   ·exact .inr h) (fun x hx y hy=>hi x (by simp [hx]) y (by simp [hy]))
  simp at this ⊢;omega
def AAT (c:List Gp) (k:Int):List Nat:=(List.range c.length).filter (M1 c k)
def i8 (A:List (List Gp)) (k:Int):List (List Gp×Nat):=A.flatMap fun c=>(AAT c k).map fun i=>(c,i)
theorem z8 (me:List Gp) (k fm:Int) (c:List Gp):∀n,(L2 me k fm c n).length=((List.range n).filter (M1 c k)).length
 | 0=>rfl
 | n+1=>by
  rw [L2,List.length_append,z8 me k fm c n,List.range_succ,List.filter_append,List.length_append];congr 1;simp only [List.filter_cons,List.filter_nil];split<;>rfl
theorem xS (me:List Gp) (k fm:Int):∀A:List (List Gp),(N7 me k fm A).length=(i8 A k).length
 | []=>rfl
 | c::A=>by
  have e1:N7 me k fm (c::A)=L2 me k fm c c.length++N7 me k fm A:=by unfold N7;rw [List.flatMap_cons]
  have e2:i8 (c::A) k=(AAT c k).map (fun i=>(c,i))++i8 A k:=by unfold i8;rw [List.flatMap_cons]
  rw [e1,e2,List.length_append,List.length_append,xS me k fm A,z8,List.length_map];rfl
theorem wN {A:List (List Gp)} {k:Int} {x:List Gp×Nat}:x∈i8 A k↔x.1∈A∧x.2<x.1.length∧M1 x.1 k x.2=true:=by
 unfold i8 AAT;rw [List.mem_flatMap];constructor
 ·rintro ⟨c,hc,hx⟩;obtain ⟨i,hi,rfl⟩:=List.mem_map.1 hx;rw [List.mem_filter,List.mem_range] at hi;exact ⟨hc,hi.1,hi.2⟩
 ·rintro ⟨h1,h2,h3⟩;exact ⟨x.1,h1,List.mem_map.2 ⟨x.2,List.mem_filter.2 ⟨List.mem_range.2 h2,h3⟩,rfl⟩⟩
theorem xK {k:Int}:∀{A:List (List Gp)},A.Nodup→(i8 A k).Nodup
 | [],_=>List.nodup_nil
 | c::A,h=>by
  obtain ⟨h1,h2⟩:=List.nodup_cons.1 h;have e2:i8 (c::A) k=(AAT c k).map (fun i=>(c,i))++i8 A k:=by unfold i8;rw [List.flatMap_cons]
  rw [e2];refine List.nodup_append.2 ⟨?_,xK h2,fun a ha b hb e=> ?_⟩
  ·have:(AAT c k).Nodup:=List.Pairwise.filter _ List.nodup_range;exact List.Pairwise.map _ (fun i j hij e=>hij (by injection e)) this
  ·subst e;obtain ⟨i,_,rfl⟩:=List.mem_map.1 ha;exact h1 (wN.1 hb).1
theorem AAS {A:List (List Gp)} (h:SL A):A.Nodup:=List.Pairwise.imp (fun {a b} hab e=>by subst e;have:=Ez a;omega) h
theorem AAi {c:List Gp} (hs:SG c) (hc:Cl c) {k:Int} {i j:Nat} (hi:i<c.length) (hj:j<c.length) (h1:M1 c k i=true) (h2:M1 c k j=true) (e:c[i]=c[j]):i=j:=by
 have key:∀i j:Nat,∀(hi:i<c.length) (hj:j<c.length),M1 c k j=true→c[i]=c[j]→¬i<j:=fun i j hi hj h2 e hij=>by
  have h3:C6 c[i] (c[j-1]'(by omega))≤0:=by
   by_cases hq:i=j-1
   ·subst hq;rw [O0];omega
   ·exact List.pairwise_iff_getElem.1 hs i (j-1) hi (by omega) (by omega)
  have h4:=List.pairwise_iff_getElem.1 hs (j-1) j (by omega) hj (by omega);have h5:=S9 h3 h4;rw [e,O0] at h5;have h6:=dU (h5.2 rfl).2 (hc _ (List.getElem_mem _)) (hc _ (List.getElem_mem _));unfold M1 at h2;rw [List.getElem?_eq_getElem hj,List.getElem?_eq_getElem (show j-1<c.length by omega),h6] at h2;simp at h2;omega
 rcases Nat.lt_trichotomy i j with h|h|h
 ·exact absurd h (key i j hi hj h2 e)
 ·exact h
 ·exact absurd h (key j i hj hi h1 e.symm)
theorem AAG {c:List Gp} {k:Int} {g:Gp} (hg:g∈c) (hk:k∈AI g.wh g.kd):∃j,∃h:j<c.length,c[j]=g∧M1 c k j=true:=by
 obtain ⟨i,hi,he⟩:=List.getElem_of_mem hg;induction i with
 | zero =>
  refine ⟨0,hi,he,?_⟩;unfold M1;rw [List.getElem?_eq_getElem hi,he];simp;exact hk
 | succ i ih =>
  by_cases hp:c[i]'(by omega)=g
  ·exact ih (by omega) hp
  ·refine ⟨i+1,hi,he,?_⟩;unfold M1;rw [List.getElem?_eq_getElem hi,he,show i+1-1=i from rfl,List.getElem?_eq_getElem (show i<c.length by omega)];simp;exact ⟨hk,hp⟩
theorem AAh {c:List Gp} {k:Int} {i:Nat} (hi:i<c.length) (h:M1 c k i=true):k∈AI c[i].wh c[i].kd:=by
 unfold M1 at h;rw [List.getElem?_eq_getElem hi] at h;simp at h;exact h.1
theorem yQ {A B:List (List Gp)} {k m:Int} {p:Gp→Gp} (hA:SL A) (ha:∀c∈A,SG c∧Cl c) (F:List Gp→List Gp) (hF:∀c∈A,F c∈B) (hi:∀c∈A,∀d∈A,F c=F d→c=d)
  (hg:∀c∈A,∀g∈c,k∈AI g.wh g.kd→p g∈F c∧m∈AI (p g).wh (p g).kd) (hp:∀c∈A,∀g∈c,∀g' ∈c,p g=p g' →g=g'):(i8 A k).length≤(i8 B m).length∧(0<A.length→0<B.length):=by
 refine ⟨?_,fun h0=> ?_⟩;rotate_left
 ·obtain ⟨c,hc⟩:=List.exists_mem_of_length_pos h0;exact List.length_pos_of_mem (hF c hc)
 refine xI (fun x y=>y.1=F x.1∧∃(h1:x.2<x.1.length) (h2:y.2<y.1.length),y.1[y.2]=p x.1[x.2]) _ _ (xK (AAS hA)) (fun x hx=> ?_) (fun x hx x' hx' y h1 h2=> ?_)
 ·obtain ⟨h1,h2,h3⟩:=wN.1 hx;obtain ⟨g1,g2⟩:=hg _ h1 x.1[x.2] (List.getElem_mem _) (AAh h2 h3);obtain ⟨j,hj,e,hh⟩:=AAG g1 g2;exact ⟨(F x.1,j),wN.2 ⟨hF _ h1,hj,hh⟩,rfl,h2,hj,e⟩
 ·obtain ⟨k1,k2,k3⟩:=wN.1 hx;obtain ⟨l1,l2,l3⟩:=wN.1 hx';obtain ⟨e1,i1,i2,i3⟩:=h1;obtain ⟨e2,j1,j2,j3⟩:=h2;obtain ⟨c,i⟩:=x;obtain ⟨d,j⟩:=x';dsimp only at *;have hcd:=hi _ k1 _ l1 (e1.symm.trans e2);subst hcd;have:=hp _ k1 _ (List.getElem_mem i1) _ (List.getElem_mem j1) (i3.symm.trans j3);have e3:i=j:=AAi (ha _ k1).1 (ha _ k1).2 i1 j1 k3 l3 this;rw [e3]
structure yJ (rn:Int→Bool) (n:Nat) (p:Int→Int):Prop where
 rok:C7 n rn
 rg:∀k,0≤k→k<(n:Int)→0≤p k∧p k<n
 inv:∀k,0≤k→k<(n:Int)→p (p k)=k
 run:∀k,rn k=true→∃m,rn m=true∧((p k=m∧p (k+1)=m+1∧p (k+2)=m+2)∨(p k=m+2∧p (k+1)=m+1∧p (k+2)=m))
def J5 (p:Int→Int) (g:Gp):Gp:=⟨g.wh,if g.wh=1 then min (p g.kd) (p (g.kd+2)) else p g.kd,g.op⟩
def wU (n:Nat) (rn:Int→Bool) (g:Gp):Prop:=0≤g.kd∧g.kd<(n:Int)∧(g.wh=1→rn g.kd=true)
section
variable {rn:Int→Bool} {n:Nat} {p:Int→Int} (T:yJ rn n p)
include T
theorem yJ.inj {a b:Int} (a0:0≤a) (a1:a<(n:Int)) (b0:0≤b) (b1:b<(n:Int)) (e:p a=p b):a=b:=by
 have h1:=T.inv a a0 a1;have h2:=T.inv b b0 b1;rw [e,h2] at h1;exact h1.symm
theorem Pl {g:Gp} (h:wU n rn g):wU n rn (J5 p g)∧(AI (J5 p g).wh (J5 p g).kd).Perm ((AI g.wh g.kd).map p)∧J5 p (J5 p g)=g:=by
 obtain ⟨h0,h1,h2⟩:=h;have r:=T.rg _ h0 h1;by_cases hw:g.wh=1
 ·obtain ⟨m,hm,hp⟩:=T.run _ (h2 hw);have m0:=T.rok _ hm;have k0:=T.rok _ (h2 hw);have i0:=T.inv _ h0 h1;have i2:=T.inv (g.kd+2) (by omega) (by omega);have hmin:min (p g.kd) (p (g.kd+2))=m:=by omega
  have e:J5 p g=⟨1,m,g.op⟩:=by unfold J5;rw [if_pos hw,hmin,hw]
  have e2:J5 p ⟨1,m,g.op⟩=g:=by
   unfold J5;rw [if_pos rfl];have:min (p m) (p (m+2))=g.kd:=by
    rcases hp with ⟨q0,q1,q2⟩|⟨q0,q1,q2⟩
    ·rw [q0] at i0;rw [q2] at i2;omega
    ·rw [q0] at i0;rw [q2] at i2;omega
   dsimp only;rw [this];cases g;simp_all
  rw [e];refine ⟨⟨m0.1,by dsimp only;omega,fun _=>hm⟩,?_,e2⟩;rw [hw];show [m,m+1,m+2].Perm [p g.kd,p (g.kd+1),p (g.kd+2)];rcases hp with ⟨q0,q1,q2⟩|⟨q0,q1,q2⟩
  ·rw [q0,q1,q2]
  ·rw [q0,q1,q2];exact (List.reverse_perm [m+2,m+1,m]).trans (.refl _)
 ·have e:J5 p g=⟨g.wh,p g.kd,g.op⟩:=by unfold J5;rw [if_neg hw]
  have e2:J5 p ⟨g.wh,p g.kd,g.op⟩=g:=by
   unfold J5;dsimp only;rw [if_neg hw,T.inv _ h0 h1]
  rw [e];refine ⟨⟨r.1,r.2,fun h=>absurd h hw⟩,?_,e2⟩;dsimp only;unfold AI;rw [if_neg hw,if_neg hw];(repeat' split)<;>exact .refl _
theorem wS {g:Gp} (h:wU n rn g):D8 n (AI g.wh g.kd):=fun z hz=>by
 obtain ⟨h0,h1,h2⟩:=h;unfold AI at hz;split at hz
 ·rename_i hw;have:=T.rok _ (h2 hw);simp at hz;omega
 ·(repeat' split at hz)<;>simp at hz<;>omega
theorem wT {l:List Int} (h:D8 n l) {i:Nat} (hi:i<n):Cz (l.map p) (p i).toNat=Cz l i:=by
 have hr:=T.rg i (by omega) (by omega);induction l with
 | nil=>rfl
 | cons z l ih =>
  rw [List.map_cons,BW,BW,ih (fun y hy=>h y (by simp [hy]))];have hz:=h z (by simp);rw [Int.toNat_of_nonneg hr.1];by_cases e:z=(i:Int)
  ·rw [e];simp
  ·rw [if_neg e,if_neg (fun e2=>e (T.inj hz.1 hz.2 (by omega) (by omega) e2))]
theorem AA2 {g:Gp} (h:wU n rn g) {i:Nat} (hi:i<n):Di (J5 p g) (p i).toNat=Di g i:=by
 unfold Di;rw [←wT T (wS T h) hi];unfold Cz;rw [(Pl T h).2.1.count_eq]
theorem xP {g:Gp} (h:wU n rn g) {k:Int} (hk:k∈AI g.wh g.kd):p k∈AI (J5 p g).wh (J5 p g).kd :=
 (Pl T h).2.1.mem_iff.2 (List.mem_map_of_mem hk)
theorem yT {i:Nat} (hi:i<n):∀{c:List Gp},(∀g∈c,wU n rn g)→B7 (c.map (J5 p)) (p i).toNat=B7 c i
 | [],_=>rfl
 | g::c,h=>by
  rw [List.map_cons];show Di _ _+B7 _ _=_;rw [AA2 T (h g (by simp)) hi,yT hi (fun x hx=>h x (by simp [hx]))];rfl
theorem wM:∀{c:List Gp},(∀g∈c,wU n rn g)→(c.map (J5 p)).map (J5 p)=c
 | [],_=>rfl
 | g::c,h=>by
  rw [List.map_cons,List.map_cons,(Pl T (h g (by simp))).2.2,wM (fun x hx=>h x (by simp [hx]))]
theorem AAF {c:List Gp} (h:∀g∈c,wU n rn g):∀g∈c.map (J5 p),wU n rn g:=fun g hg=>by
 obtain ⟨x,hx,rfl⟩:=List.mem_map.1 hg;exact (Pl T (h x hx)).1
omit T in
theorem xE {l:List Int} (h:D8 n l) {i:Nat} (hi:n≤i):Cz l i=0:=by
 unfold Cz;rw [List.count_eq_zero.2 (fun hm=>by have:=h _ hm;omega)];rfl
theorem yH {i:Nat} (hi:n≤i):∀{c:List Gp},(∀g∈c,wU n rn g)→B7 c i=0
 | [],_=>rfl
 | g::c,h=>by
  show Di g i+B7 c i=0;rw [yH hi (fun x hx=>h x (by simp [hx]))];unfold Di;rw [xE (wS T (h g (by simp))) hi];rfl
end
structure xO (n:Nat) (p:Int→Int) (a b:List Int):Prop where
 la:a.length=n
 lb:b.length=n
 eq:∀i:Nat,i<n→b.getD (p i).toNat 0=a.getD i 0
section
variable {rn:Int→Bool} {n:Nat} {p:Int→Int} (T:yJ rn n p)
include T
theorem xO.back {a b:List Int} (h:xO n p a b):xO n p b a:=⟨h.lb,h.la,fun i hi=>by
 have r:=T.rg i (by omega) (by omega)
 have e:=h.eq (p i).toNat (by omega)
 rw [Int.toNat_of_nonneg r.1,T.inv i (by omega) (by omega),Int.toNat_natCast] at e
 exact e.symm⟩
theorem ABM {a b:List Int} (h:xO n p a b) {c:List Gp} (hg:∀g∈c,wU n rn g) (hc:∀i,B7 c i=a.getD i 0) (i:Nat):B7 (c.map (J5 p)) i=b.getD i 0:=by
 by_cases hi:i<n
 ·have r:=T.rg i (by omega) (by omega);have e:=(h.back T).eq i hi;have e2:=yT T (i:=(p i).toNat) (by omega) hg;rw [Int.toNat_of_nonneg r.1,T.inv i (by omega) (by omega),Int.toNat_natCast] at e2;rw [e2,hc,e]
 ·rw [yH T (by omega) (AAF T hg)];have:=h.lb;rw [List.getD_eq_getElem?_getD,List.getElem?_eq_none (by omega)];rfl
def twL (p:Int→Int) (c:List Gp):List Gp:=CX (c.map (J5 p))
omit T in
theorem AAX {c:List Gp} {g:Gp} (h:g∈c):J5 p g∈twL p c:=(BV _).mem_iff.2 (List.mem_map_of_mem h)
theorem AAY {c d:List Gp} (hc:∀g∈c,wU n rn g) (hd:∀g∈d,wU n rn g) (sc:SG c) (sd:SG d) (cc:Cl c) (e:twL p c=twL p d):c=d:=by
 have h1:(c.map (J5 p)).Perm (d.map (J5 p)):=(BV _).symm.trans (by rw [show CX (c.map (J5 p))=CX (d.map (J5 p)) from e];exact BV _);have h2:=h1.map (J5 p);rw [wM T hc,wM T hd] at h2;exact L9 h2 sc sd cc
theorem xR {g g' :Gp} (h:wU n rn g) (h' :wU n rn g') (e:J5 p g=J5 p g'):g=g' :=by
 rw [←(Pl T h).2.2,e,(Pl T h').2.2]
omit T in
theorem wK {bag:List Int} {c:List Gp} (h:Hu n rn bag c):∀g∈c,wU n rn g:=fun g hg=>by
 rcases h.me g hg with ⟨_,h0,h1,h2⟩|⟨_,h0,h1,h2⟩
 ·exact ⟨h0,h1,fun hw=>by
   rcases h2 with h2|h2
   ·omega
   ·exact h2.2⟩
 ·exact ⟨h0,h1,fun hw=>by omega⟩
theorem AAz {a b:List Int} (h:xO n p a b) {c:List Gp} (hc:Hu n rn a c):Hu n rn b (twL p c):=by
 have hg:=wK hc;refine ⟨HV _,fun g hg' => ?_,?_,fun i=> ?_⟩
 ·obtain ⟨x,hx,rfl⟩:=List.mem_map.1 ((BV _).mem_iff.1 hg');obtain ⟨k0,k1,k2⟩:=(Pl T (hg x hx)).1;rcases hc.me x hx with ⟨o,_,_,h2⟩|⟨o,_,_,h2⟩
  ·refine .inl ⟨o,k0,k1,?_⟩;rcases h2 with h2|h2
   ·exact .inl h2
   ·exact .inr ⟨h2.1,k2 h2.1⟩
  ·exact .inr ⟨o,k0,k1,h2⟩
 ·unfold twL;rw [(BV _).countP_eq,List.countP_map,←hc.pr];rfl
 ·unfold twL;rw [EK (BV _),ABM T h hg hc.ct]
end
set_option maxRecDepth 100000
structure qFw (n:Nat) (p:Int→Int) (f x:Fm):Prop where
 wh:x.wh=f.wh
 ag:x.ag=f.ag
 ln:x.ks.length=f.ks.length
 ct:∀i:Nat,i<n→Cz x.ks (p i).toNat=Cz f.ks i
def AAR (s:AL) (n:Nat) (p:Int→Int):Prop:=∀w∈Au,∃w' ∈Au,∀k:Nat,k<n→(QH s k<0→QH s (p k).toNat<0)∧(0≤QH s k→eD (QH s) (SC s) w k=true→eD (QH s) (SC s) w' (p k).toNat=true)
def AAE (p:Int→Int):Prop:=∀w∈Au,∃w' ∈Au,((JR w).map p).Perm (JR w')
theorem wP {bag:List Int} {g:Gp}:∀{k:Nat},g∈DH bag k↔∃j:Nat,j<k∧g=gp 5 j∧0<bag.getD j 0
 | 0=>⟨(fun h=>by cases h),(fun ⟨j,h,_⟩=>by omega)⟩
 | k+1=>by
  rw [DH,List.mem_append,wP,List.mem_replicate];constructor
  ·rintro (⟨j,h1,h2,h3⟩|⟨h1,h2⟩)
   ·exact ⟨j,by omega,h2,h3⟩
   ·exact ⟨k,by omega,h2,by omega⟩
  ·rintro ⟨j,h1,h2,h3⟩;by_cases e:j=k
   ·subst e;exact .inr ⟨by omega,h2⟩
   ·exact .inl ⟨j,by omega,h2,h3⟩
theorem yS {bag:List Int} {g:Gp}:∀{k:Nat},g∈FB bag k↔∃j:Nat,j<k∧g=gp 4 j∧0<bag.getD j 0 / 2
 | 0=>⟨(fun h=>by cases h),(fun ⟨j,h,_⟩=>by omega)⟩
 | k+1=>by
  rw [FB,List.mem_append,yS,List.mem_replicate];constructor
  ·rintro (⟨j,h1,h2,h3⟩|⟨h1,h2⟩)
   ·exact ⟨j,by omega,h2,h3⟩
   ·exact ⟨k,by omega,h2,by omega⟩
  ·rintro ⟨j,h1,h2,h3⟩;by_cases e:j=k
   ·subst e;exact .inr ⟨by omega,h2⟩
   ·exact .inl ⟨j,by omega,h2,h3⟩
theorem xC {bag:List Int} {g:Gp}:∀{k:Nat},g∈ET bag k↔∃j:Nat,j<k∧((bag.getD j 0=1∧g=gp 5 j)∨(bag.getD j 0=2∧g=gp 4 j))
 | 0=>⟨(fun h=>by cases h),(fun ⟨j,h,_⟩=>by omega)⟩
 | k+1=>by
  rw [ET,List.mem_append,xC];constructor
  ·rintro (⟨j,h1,h2⟩|h)
   ·exact ⟨j,by omega,h2⟩
   ·split at h
    ·rename_i e;simp at h;exact ⟨k,by omega, .inl ⟨e,h⟩⟩
    ·split at h
     ·rename_i e;simp at h;exact ⟨k,by omega, .inr ⟨e,h⟩⟩
     ·cases h
  ·rintro ⟨j,h1,h2⟩;by_cases e:j=k
   ·subst e;refine .inr ?_;rcases h2 with ⟨h2,h3⟩|⟨h2,h3⟩
    ·rw [if_pos h2,h3];simp
    ·rw [if_neg (by omega),if_pos h2,h3];simp
   ·exact .inl ⟨j,by omega,h2⟩
theorem y5 {q:Int→Bool} {bag:List Int}:bag.any q=true↔∃i:Nat,i<bag.length∧q (bag.getD i 0)=true:=by
 rw [List.any_eq_true];constructor
 ·rintro ⟨z,hz,hq⟩;obtain ⟨i,hi,rfl⟩:=List.getElem_of_mem hz;exact ⟨i,hi,by simpa [hi] using hq⟩
 ·rintro ⟨i,hi,hq⟩;exact ⟨bag[i],List.getElem_mem hi,by simpa [hi] using hq⟩
section
variable {rn:Int→Bool} {n:Nat} {p:Int→Int} (T:yJ rn n p)
include T
theorem qFw.back {f x:Fm} (h:qFw n p f x):qFw n p x f:=⟨h.wh.symm,h.ag.symm,h.ln.symm,fun i hi=>by
 have r:=T.rg i (by omega) (by omega)
 have e:=h.ct (p i).toNat (by omega)
 rw [Int.toNat_of_nonneg r.1,T.inv i (by omega) (by omega),Int.toNat_natCast] at e
 exact e.symm⟩
theorem xX {L L' :List Gp} (hs:SG L) (hc:Cl L) (hg:∀g∈L,wU n rn g∧J5 p g∈L') (k:Int):(i8 [L] k).length≤(i8 [L'] (p k)).length∧(0<[L].length→0<[L'].length):=by
 refine yQ (p:=J5 p) (List.pairwise_singleton ..) (fun c h=>by simp at h;subst h;exact ⟨hs,hc⟩) (fun _=>L') (fun c _=>by simp) (fun c h d h' _=>by simp at h h';rw [h,h']) (fun c h g hm hk=> ?_) (fun c h g hm g' hm' e=> ?_)
 ·simp at h;subst h;exact ⟨(hg g hm).2,xP T (hg g hm).1 hk⟩
 ·simp at h;subst h;exact xR T (hg g hm).1 (hg g' hm').1 e
theorem AAZ {q:Int→Bool} {a b:List Int} (h:xO n p a b) (hq:b.any q=true):a.any q=true:=by
 obtain ⟨i,hi,hq⟩:=y5.1 hq;rw [h.lb] at hi;have e:=(h.back T).eq i hi;have r:=T.rg i (by omega) (by omega);exact y5.2 ⟨(p i).toNat,by rw [h.la];omega,by rw [e];exact hq⟩
theorem AA9 {f x:Fm} (h:qFw n p f x) {k:Nat} (hk:k<n):((p k)∈x.ks↔(k:Int)∈f.ks):=by
 have r:=T.rg k (by omega) (by omega);have e:=h.ct k hk;unfold Cz at e;rw [Int.toNat_of_nonneg r.1] at e;rw [←List.count_pos_iff,←List.count_pos_iff];omega
theorem xD {w:Int} {j:Nat} (hj:j<n) (hw:w≠1):wU n rn (gp w j)∧J5 p (gp w j)=gp w ((p j).toNat:Nat):=by
 have r:=T.rg j (by omega) (by omega);refine ⟨⟨by show (0:Int)≤j;omega,by show (j:Int)<n;omega,fun e=>absurd e hw⟩,?_⟩;unfold J5 gp;dsimp only;rw [if_neg hw,Int.toNat_of_nonneg r.1]
theorem ABG (hS:AAE p) {a b:List Int} (h:xO n p a b) (ha:Bg n a) (hb:Bg n b) (hn:27≤n) {f:Nat} (hfa:a.sum<(f:Int)) (hfb:b.sum<(f:Int)) {c:List Gp} (hc:c∈Ln rn f JR a):(∀g∈c,wU n rn g)∧twL p c∈Ln rn f JR b:=by
 unfold Ln at hc;obtain ⟨w,hw,hx⟩:=List.mem_flatMap.1 hc;obtain ⟨w',hw',hp⟩:=hS w hw;obtain ⟨a1,b1,c1,rfl,ha1,hb1,hc1⟩:=Gq w hw;obtain ⟨a2,b2,c2,rfl,ha2,hb2,hc2⟩:=Gq w' hw';have hin:=SW (n:=n) ha1 hb1 hc1 hn;have hin2:=SW (n:=n) ha2 hb2 hc2 hn;have hr1:=Qf ha1 hb1 hc1;have hr2:=Qf ha2 hb2 hc2;have hl2:=P0 a2 b2 c2;have hl1:=P0 a1 b1 c1;obtain ⟨N,hN⟩:∃N,JR [a1,b1,c1]=N:=⟨_,rfl⟩;obtain ⟨M,hM⟩:∃M,JR [a2,b2,c2]=M:=⟨_,rfl⟩;rw [hN] at hin hp hr1 hl1;rw [hM] at hin2 hp hr2 hl2;have hcm:∀i:Nat,i<n→Cz M (p i).toNat=Cz N i:=fun i hi=>by
  rw [←wT T hin hi];unfold Cz;rw [hp.count_eq]
 unfold HK at hx;rw [hN] at hx;rcases C5 _ a (by rw [ha.1];exact hin) ha.2 with ⟨h1,h2⟩|⟨h1,_⟩
 ·rw [h1] at hx;dsimp only at hx;have hbd:=ha.dec hin h2;have hsum:=Ck _ a (by rw [ha.1];exact hin);obtain ⟨l,hl,rfl⟩:=List.mem_map.1 hx;have hl:=((Fb T.rok hbd (f:=f) (by omega)).2 l).1 hl;have hgl:=wK hl;have h3:∀i,Cz M i≤b.getD i 0:=fun i=>by
   by_cases hi:i<n
   ·have r:=T.rg i (by omega) (by omega);have e:=(h.back T).eq i hi;have e2:=hcm (p i).toNat (by omega);rw [Int.toNat_of_nonneg r.1,T.inv i (by omega) (by omega),Int.toNat_natCast] at e2;rw [e2,←e];exact h2 _
   ·rw [xE hin2 (by omega)];exact hb.2 i
  have ht:xO n p (Ah a N) (Ah b M):=⟨by rw [Bn,h.la],by rw [Bn,h.lb],fun i hi=>by
   rw [BF _ _ (by rw [hb.1];exact hin2),BF _ _ (by rw [ha.1];exact hin),h.eq i hi,hcm i hi]⟩
  have hsp:=AAz T ht hl;have hgs:∀g∈KZ N,wU n rn g:=fun g hg=>by
   unfold KZ at hg;obtain ⟨z,hz,rfl⟩:=List.mem_map.1 hg;have:=hin z hz;exact ⟨this.1,this.2,fun e=>absurd e (show ¬(5:Int)=1 by decide)⟩
  refine ⟨fun g hg=> ?_,?_⟩
  ·rcases List.mem_append.1 hg with hg|hg
   ·exact hgl g hg
   ·exact hgs g hg
  ·have hM2:=C5 M b (by rw [hb.1];exact hin2) hb.2;have hM2:BX b M=some (Ah b M):=by
    rcases hM2 with ⟨k1,_⟩|⟨_,i,hi⟩
    ·exact k1
    ·have:=h3 i;omega
   have hbd2:=hb.dec hin2 h3;have hsum2:=Ck _ b (by rw [hb.1];exact hin2);unfold Ln;refine List.mem_flatMap.2 ⟨_,hw',?_⟩;unfold HK;rw [hM,hM2];dsimp only;refine List.mem_map.2 ⟨_,((Fb T.rok hbd2 (f:=f) (by omega)).2 _).2 hsp,?_⟩;have e1:(KZ N).map (J5 p)=(N.map p).map (gp 5):=by
    unfold KZ;rw [List.map_map,List.map_map];refine List.map_congr_left fun z _=> ?_
    show J5 p (gp 5 z)=gp 5 (p z);unfold J5;rw [if_neg (show ¬(gp 5 z).wh=1 from (show ¬(5:Int)=1 by decide))]
   have h4:=dM hsp;refine Rf ?_ ?_ ?_
   ·rw [List.map_append,e1];exact (BV _).append (hp.map _).symm
   ·unfold SG;rw [List.pairwise_append];refine ⟨hsp.sg,yR hr2,fun g hg y hy=> ?_⟩;have h5:=h4 g hg;have h6:=gP _ y hy;have h7:=A2 g y;omega
   ·intro g hg;obtain ⟨x,hx,rfl⟩:=List.mem_map.1 hg;rcases List.mem_append.1 hx with hx|hx
    ·exact hl.cl x hx
    ·exact Xx _ x hx
 ·rw [h1] at hx;cases hx
end
theorem z6 {rn:Int→Bool} {n f:Nat} {bag:List Int} (hr:C7 n rn) (hb:Bg n bag) (hs:bag.sum<(f:Int)) (hn:27≤n) (c:List Gp):c∈Iv rn f JR bag↔c∈Ln rn f JR bag:=by
 obtain ⟨S,p1,p2⟩:=Qq (Ln rn f JR bag);obtain ⟨e,_⟩:=YS hr hb hs (fun w hw=>by
  obtain ⟨a,b,c,rfl,ha,hb,hc⟩:=Gq w hw
  exact ⟨Qf ha hb hc,SW ha hb hc hn⟩) (fun a ha b hb e=>Td a ha b hb e) p1 p2
 rw [←e];exact p1.mem_iff
theorem wO (k:Int) (B:List (List Gp)) (m:Int):(i8 [] k).length≤(i8 B m).length∧(0<([]:List (List Gp)).length→0<B.length):=⟨Nat.zero_le _,fun h=>absurd h (by simp)⟩
theorem xZ {s:AL} {f:Fm} {n:Nat} (hn:(n:Int)=AY s) (F:TV s f):D8 n f.ks:=fun z hz=>by
 have:=F.kn.1 z hz;omega
theorem AA0 {s:AL} {h o:Hd} {f x:Fm} {n:Nat} {p:Int→Int} (T:yJ (AT s) n p) (hf:Az s f=0) (hx:Az s x=0) (hU:Am s h=true) (hV:Am s o=true) (B:xO n p h.bag o.bag) (hm:o.me.length=h.me.length) (W:qFw n p f x) (hK:f.wh=4→AAR s n p) (hS:f.wh=5→AAE p) (k:Int):(i8 (Hf s h f) k).length≤(i8 (Hf s o x) (p k)).length∧(0<(Hf s h f).length→0<(Hf s o x).length):=by
 obtain ⟨ho,hsum⟩:=Pt hU;obtain ⟨ho2,hsum2⟩:=Pt hV;have F:=Nf hf;have F2:=Nf hx;have V:=AU ho.va;have hme:=V.me;have hmm:=ho.mm;obtain ⟨b1,b2,b3⟩:=Mx ho.va ho.cn;obtain ⟨c1,c2,c3⟩:=Mx ho2.va ho2.cn;have nw:=F.nw;have hw:=F.wh;unfold Cs at nw;have hn:(n:Int)=AY s:=by have:=B.la;omega
 have ha:Bg n h.bag:=⟨B.la,fun i=>(b1 i).1⟩;have hb:Bg n o.bag:=⟨B.lb,fun i=>(c1 i).1⟩;have hr:=T.rok;have hA:=ABP hf hU;have hmo:He s x=He s f:=by unfold He;rw [W.wh]
 have hpl:∀j:Nat,j<n→(p j).toNat<n:=fun j hj=>by have:=T.rg j (by omega) (by omega);omega
 unfold Hf at hA ⊢;rw [hmo,hm];by_cases hm1:(h.me.length:Int)≤He s f
 ·rw [if_pos hm1] at hA ⊢;rw [if_pos hm1];unfold QP at hA ⊢;rw [W.wh];have hw' :f.wh=1∨f.wh=2∨f.wh=3∨f.wh=4∨f.wh=5∨f.wh=6:=by omega
  rcases hw' with hw|hw|hw|hw|hw|hw<;>rw [hw] at hA ⊢
  ·rw [if_pos rfl] at hA ⊢;rw [if_pos rfl];have h1:=(Fb hr ha (f:=20) (by omega)).2;have h2:=(Fb hr hb (f:=20) (by omega)).2;refine yQ (p:=J5 p) hA.1 (fun c hc=>⟨(hA.2 c hc).sg,(hA.2 c hc).cl⟩) (twL p) (fun c hc=>(h2 _).2 (AAz T B ((h1 c).1 hc))) (fun c hc d hd e=> ?_) (fun c hc g hg hk=>⟨AAX hg,xP T (wK ((h1 c).1 hc) g hg) hk⟩) (fun c hc g hg g' hg' e=> ?_)
   ·exact AAY T (wK ((h1 c).1 hc)) (wK ((h1 d).1 hd)) (hA.2 c hc).sg (hA.2 d hd).sg (hA.2 c hc).cl e
   ·exact xR T (wK ((h1 c).1 hc) g hg) (wK ((h1 c).1 hc) g' hg') e
  ·rw [if_neg (by decide),if_pos rfl] at hA ⊢;rw [if_neg (by decide),if_pos rfl];unfold EW at hA ⊢;rw [W.ag];by_cases hb1:h.bag.any (Iy f.ag)=true
   ·rw [if_pos hb1];exact wO _ _ _
   ·rw [if_neg hb1] at hA ⊢;rw [if_neg (fun e=>hb1 (AAZ T B e))];have hL:=hA.2 _ (List.mem_singleton.2 rfl);refine xX T hL.sg hL.cl (fun g hg=> ?_) k;obtain ⟨j,hj,rfl,hj2⟩:=yS.1 hg;rw [B.la] at hj;obtain ⟨g1,g2⟩:=xD T (w:=4) hj (by decide);refine ⟨g1,?_⟩;rw [g2];refine yS.2 ⟨_,?_,rfl,by rw [B.eq j hj];exact hj2⟩;rw [B.lb];exact hpl j hj
  ·rw [if_neg (by decide),if_neg (by decide),if_pos rfl] at hA ⊢;rw [if_neg (by decide),if_neg (by decide),if_pos rfl];unfold I9 at hA ⊢;by_cases hg1:Mc h.bag f.ks=true
   ·rw [if_pos hg1] at hA ⊢;have hg:=IV.1 hg1;rw [if_pos (IV.2 fun j hj=>by
     rw [B.lb] at hj
     have e1:=(B.back T).eq j hj
     have e3:=hpl j hj
     have e2:=hg (p j).toNat (by rw [B.la];exact e3)
     have r:=T.rg j (by omega) (by omega)
     have e4:=AA9 T W e3
     rw [Int.toNat_of_nonneg r.1,T.inv j (by omega) (by omega)] at e4
     rw [Int.toNat_of_nonneg r.1,e1] at e2
     exact ⟨e4.trans e2.1,e2.2⟩)]
    have hL:=hA.2 _ (List.mem_singleton.2 rfl);refine xX T hL.sg hL.cl (fun g hg=> ?_) k;obtain ⟨j,hj,hj2⟩:=xC.1 ((BV _).mem_iff.1 hg);rw [B.la] at hj;rcases hj2 with ⟨hj2,rfl⟩|⟨hj2,rfl⟩
    ·obtain ⟨g1,g2⟩:=xD T (w:=5) hj (by decide);refine ⟨g1,?_⟩;rw [g2];exact (BV _).mem_iff.2 (xC.2 ⟨_,by rw [B.lb];exact hpl j hj, .inl ⟨by rw [B.eq j hj];exact hj2,rfl⟩⟩)
    ·obtain ⟨g1,g2⟩:=xD T (w:=4) hj (by decide);refine ⟨g1,?_⟩;rw [g2];exact (BV _).mem_iff.2 (xC.2 ⟨_,by rw [B.lb];exact hpl j hj, .inr ⟨by rw [B.eq j hj];exact hj2,rfl⟩⟩)
   ·rw [if_neg hg1];exact wO _ _ _
  ·rw [if_neg (by decide),if_neg (by decide),if_neg (by decide),if_pos rfl] at hA ⊢;rw [if_neg (by decide),if_neg (by decide),if_neg (by decide),if_pos rfl];unfold Gm at hA ⊢;by_cases hg1:Au.any (K5 (QH s) (SC s) h.bag)=true
   ·rw [if_pos hg1] at hA ⊢;obtain ⟨w,hw1,hw2⟩:=List.any_eq_true.1 hg1;obtain ⟨w',hw3,hw4⟩:=hK hw w hw1;rw [if_pos (List.any_eq_true.2 ⟨w',hw3,by
     unfold K5 at hw2 ⊢
     rw [List.all_eq_true] at hw2 ⊢
     intro j hj
     rw [List.mem_range,B.lb] at hj
     have r:=T.rg j (by omega) (by omega)
     have e1:=(B.back T).eq j hj
     have e2:=hw2 (p j).toNat (by rw [List.mem_range,B.la];exact hpl j hj)
     have e3:=hw4 (p j).toNat (hpl j hj)
     rw [Int.toNat_of_nonneg r.1,T.inv j (by omega) (by omega),Int.toNat_natCast] at e3
     unfold T6 at e2 ⊢
     rw [e1] at e2
     simp only [Bool.and_eq_true,Bool.or_eq_true,Bool.not_eq_true',Bool.and_eq_false_iff,decide_eq_true_eq,decide_eq_false_iff_not] at e2 ⊢
     refine ⟨e2.1,?_⟩
     rcases e2.2 with (e4|e4)|e4
     ·exact .inl (.inl e4)
     ·exact .inl (.inr (by have:=e3.1;omega))
     ·by_cases h0:0≤QH s (p j).toNat
      ·exact .inr (e3.2 h0 e4)
      ·exact .inl (.inr (by have:=e3.1;omega))⟩)]
    have hL:=hA.2 _ (List.mem_singleton.2 rfl);refine xX T hL.sg hL.cl (fun g hg=> ?_) k;obtain ⟨j,hj,rfl,hj2⟩:=wP.1 hg;rw [B.la] at hj;obtain ⟨g1,g2⟩:=xD T (w:=5) hj (by decide);refine ⟨g1,?_⟩;rw [g2];exact wP.2 ⟨_,by rw [B.lb];exact hpl j hj,rfl,by rw [B.eq j hj];exact hj2⟩
   ·rw [if_neg hg1];exact wO _ _ _
  ·rw [if_neg (by decide),if_neg (by decide),if_neg (by decide),if_neg (by decide),if_pos rfl] at hA ⊢;rw [if_neg (by decide),if_neg (by decide),if_neg (by decide),if_neg (by decide),if_pos rfl];have h9:s.su=[9,9,9]:=by
    by_cases h:s.su=[9,9,9]
    ·exact h
    ·exact absurd (.inr (.inr (.inr (.inr (.inl ⟨hw, .inl h⟩))))) nw
   have h27:27≤n:=by
    have h1:=F1 ho.va;have h2:=V.wi;have h3:=V.dr;have:AQ s=s.wi+s.dr+27:=by unfold AQ;rw [h9];rfl
    omega
   have m1:=z6 hr ha (f:=20) (by omega) h27;have m2:=z6 hr hb (f:=20) (by omega) h27;have key:∀c∈Iv (AT s) 20 JR h.bag,(∀g∈c,wU n (AT s) g)∧twL p c∈Iv (AT s) 20 JR o.bag:=fun c hc=>by
    obtain ⟨k1,k2⟩:=ABG T (hS hw) B ha hb h27 (f:=20) (by omega) (by omega) ((m1 c).1 hc);exact ⟨k1,(m2 _).2 k2⟩
   refine yQ (p:=J5 p) hA.1 (fun c hc=>⟨(hA.2 c hc).sg,(hA.2 c hc).cl⟩) (twL p) (fun c hc=>(key c hc).2) (fun c hc d hd e=> ?_) (fun c hc g hg hk=>⟨AAX hg,xP T ((key c hc).1 g hg) hk⟩) (fun c hc g hg g' hg' e=> ?_)
   ·exact AAY T (key c hc).1 (key d hd).1 (hA.2 c hc).sg (hA.2 d hd).sg (hA.2 c hc).cl e
   ·exact xR T ((key c hc).1 g hg) ((key c hc).1 g' hg') e
  ·rw [if_neg (by decide),if_neg (by decide),if_neg (by decide),if_neg (by decide),if_neg (by decide)] at hA ⊢;rw [if_neg (by decide),if_neg (by decide),if_neg (by decide),if_neg (by decide),if_neg (by decide)];unfold Ni at hA ⊢;by_cases hg1:Dm f.ks h.bag.length=h.bag
   ·rw [if_pos hg1] at hA ⊢;have hin:=xZ hn F;have hin2:=xZ hn F2;rw [if_pos (Ue (Do _ _) fun i=>by
     rw [Gu (by rw [B.lb];exact hin2)]
     by_cases hi:i<n
     ·have r:=T.rg i (by omega) (by omega)
      have e1:=(B.back T).eq i hi
      have e2:=W.ct (p i).toNat (hpl i hi)
      rw [Int.toNat_of_nonneg r.1,T.inv i (by omega) (by omega),Int.toNat_natCast] at e2
      rw [e2,←e1,←Gu (n:=h.bag.length) (by rw [B.la];exact hin),hg1]
     ·rw [xE hin2 (by omega),List.getD_eq_getElem?_getD,List.getElem?_eq_none (by have:=B.lb;omega)];rfl)]
    have hL:=hA.2 _ (List.mem_singleton.2 rfl);refine xX T hL.sg hL.cl (fun g hg=> ?_) k;obtain ⟨j,hj,rfl,hj2⟩:=wP.1 hg;rw [B.la] at hj;obtain ⟨g1,g2⟩:=xD T (w:=5) hj (by decide);refine ⟨g1,?_⟩;rw [g2];exact wP.2 ⟨_,by rw [B.lb];exact hpl j hj,rfl,by rw [B.eq j hj];exact hj2⟩
   ·rw [if_neg hg1];exact wO _ _ _
 ·rw [if_neg hm1];exact wO _ _ _
theorem AAa {s:AL} {h o:Hd} {f x:Fm} {n:Nat} {p:Int→Int} (T:yJ (AT s) n p) (hf:Az s f=0) (hx:Az s x=0) (hU:Am s h=true) (hV:Am s o=true) (B:xO n p h.bag o.bag) (hm:o.me.length=h.me.length) (W:qFw n p f x) (hK:f.wh=4→AAR s n p) (hS:f.wh=5→AAE p) :
  (0<(Hf s h f).length↔0<(Hf s o x).length)∧∀{k:Int},0≤k→k<(n:Int)→(i8 (Hf s h f) k).length=(i8 (Hf s o x) (p k)).length:=by
 have h1:=fun k=>AA0 T hf hx hU hV B hm W hK hS k
 have h2:=fun k=>AA0 T hx hf hV hU (B.back T) hm.symm (W.back T) (by rw [W.wh];exact hK) (by rw [W.wh];exact hS) k
 refine ⟨⟨(h1 0).2,(h2 0).2⟩,fun {k} k0 k1=>Nat.le_antisymm (h1 k).1 ?_⟩;have:=(h2 (p k)).1;rw [T.inv k k0 k1] at this;exact this
end Go.Proofs.YthblfhgofopcaaaGreat

namespace Go.Proofs.YthblfhgofopcaaaGreat
theorem AAl {s:AL} {X:List Int} {ms:List Gp} (hU:Am s ⟨X,ms⟩=true) {i:Nat} (hi:i<X.length) (h1:1≤X.getD i 0):Ag s ⟨X.set i (X.getD i 0-1),ms⟩=0∧Am s ⟨X.set i (X.getD i 0-1),ms⟩=false:=by
 obtain ⟨ho,hsum⟩:=Pt hU;have b:=ho.bag;obtain ⟨R,hR⟩:∃R,X.set i (X.getD i 0-1)=R:=⟨_,rfl⟩;have hl:R.length=X.length:=by rw [←hR];simp
 have hg:∀j,R.getD j 0=X.getD j 0-if i=j then 1 else 0:=fun j=>by
  rw [←hR];by_cases hij:i=j
  ·subst hij;simp [hi]
  ·rw [List.getD_eq_getElem?_getD,List.getElem?_set_ne hij,List.getD_eq_getElem?_getD];simp [hij]
 have hs:R.sum=X.sum-1:=by
  rw [←hR,Pb _ _ _ hi];omega
 rw [hR];have hin:∀g∈ms,D8 X.length (AI g.wh g.kd):=fun g hg=>b.inb hg
 have hT:=FD ms X hin;have hT1:=FD ms R (fun g hg=>by rw [hl];exact hin g hg);have V:=(AU ho.va).co;have hle:∀j,(Bi X ms).getD j 0≤s.co:=fun j=>Lu (P:=fun z=>z≤s.co) (fun z hz=>ho.tot z hz) (by omega) j
 have hrg:∀j,0≤X.getD j 0∧X.getD j 0≤s.co:=fun j=>Lu (P:=fun z=>0≤z∧z≤s.co) (fun z hz=>ho.rg z hz) (by omega) j
 have hcnt:Be s R=0:=by
  unfold Be;rw [if_neg (by rw [hl];have:=ho.ln;dsimp only at this;omega),if_neg];intro hq;obtain ⟨z,hz,hf⟩:=List.any_eq_true.1 hq;obtain ⟨j,hj,rfl⟩:=List.mem_iff_getElem.1 hz;have e1:R.getD j 0=R[j]:=by simp [hj]
  rw [←e1,hg] at hf;have h3:=hrg j;unfold F8 at hf;simp only [Bool.or_eq_true,decide_eq_true_eq] at hf;by_cases hij:i=j
  ·rw [if_pos hij] at hf;subst hij;omega
  ·rw [if_neg hij] at hf;omega
 have hany:(Bi R ms).any (fun z=>decide (s.co<z))=false:=D0 fun j hj=>by
  have e1:(Bi R ms).getD j 0=(Bi R ms)[j]:=by simp [hj]
  rw [←e1,hT1,hg];have h2:=hle j;rw [hT] at h2;simp only [decide_eq_false_iff_not];split<;>omega
 have hm:=ho.mm;have hml:=ho.ml;dsimp only at hm hml hsum;have e:Ag s ⟨R,ms⟩=0:=by
  unfold Ag;dsimp only;rw [if_neg (by simp [ho.va]),if_neg (by simp [hcnt]),if_neg (by simp [hml]),hany,if_neg (by simp),if_neg (by omega),if_neg (by omega)]
 refine ⟨e,?_⟩;unfold Am;rw [e];dsimp only;rw [decide_eq_false (p:=R.sum=3*(s.me-ms.length)+2) (by omega)];simp
theorem xG {W:Nat→Bool} {k:Nat}:∀{n:Nat},k<n→((k:Int)∈Gv W n↔W k=true)
 | 0,h=>by omega
 | n+1,h=>by
  rw [Gv,List.mem_append];by_cases hk:k<n
  ·rw [xG hk];constructor
   ·rintro (h|h)
    ·exact h
    ·split at h
     ·simp at h;omega
     ·cases h
   ·exact fun h=> .inl h
  ·obtain rfl:k=n:=by omega
   constructor
   ·rintro (h|h)
    ·exact absurd (wt_lt _ h) (by omega)
    ·split at h
     ·assumption
     ·cases h
   ·intro h;rw [if_pos h];simp
where wt_lt:∀n,(k:Int)∈Gv W n→k<n
 | 0,h=>by cases h
 | n+1,h=>by
  rw [Gv,List.mem_append] at h
  rcases h with h|h
  ·have:=wt_lt n h;omega
  ·split at h
   ·simp at h;omega
   ·cases h
theorem zA {W:Nat→Bool}:∀n,(∀z∈Gv W n,z<(n:Int))∧GR (Gv W n)
 | 0=>⟨fun z hz=>(by cases hz),List.Pairwise.nil⟩
 | n+1=>by
  obtain ⟨h1,h2⟩:=zA (W:=W) n;rw [Gv];refine ⟨fun z hz=> ?_,?_⟩
  ·rcases List.mem_append.1 hz with h|h
   ·have:=h1 z h;omega
   ·split at h
    ·simp at h;omega
    ·cases h
  ·unfold GR;rw [List.pairwise_append];refine ⟨h2,by split<;>simp,fun a ha b hb=> ?_⟩;have:=h1 a ha;split at hb
   ·simp at hb;omega
   ·cases hb
end Go.Proofs.YthblfhgofopcaaaGreat

namespace Go.Proofs.YthblfhgofopcaaaGreat
open Go.RowKit
set_option maxRecDepth 100000
theorem AAd {a b:List Int} (h:a.Perm b):a.sum=b.sum:=by
 induction h with
 | nil=>rfl
 | cons x _ ih=>rw [List.sum_cons,List.sum_cons,ih]
 | swap x y l=>simp only [List.sum_cons];omega
 | trans _ _ h1 h2=>exact h1.trans h2
theorem yC (a:List Int):a=(List.range a.length).map fun i=>a.getD i 0:=by
 refine List.ext_getElem (by simp) fun i h1 h2=> ?_
 simp [h1]
section
variable {s:AL} {n:Nat} {p:Int→Int} (T:yJ (AT s) n p)
include T
theorem AAp {a b:List Int} (h:xO n p a b):b.Perm a:=by
 have h1:((List.range n).map fun i:Nat=>(p i).toNat).Perm (List.range n):=by
  refine (List.perm_ext_iff_of_nodup ?_ List.nodup_range).2 fun i=> ?_
  ·refine (List.pairwise_map.2 ?_);refine List.Pairwise.imp_of_mem (R:=(· ≠·)) (fun {i j} hi hj hij e=> ?_) List.nodup_range;rw [List.mem_range] at hi hj;have r1:=T.rg i (by omega) (by omega);have r2:=T.rg j (by omega) (by omega);have:=T.inj (a:=i) (b:=j) (by omega) (by omega) (by omega) (by omega) (by omega);omega
  ·rw [List.mem_map,List.mem_range];constructor
   ·rintro ⟨j,hj,rfl⟩;rw [List.mem_range] at hj;have r:=T.rg j (by omega) (by omega);omega
   ·intro hi;have r:=T.rg i (by omega) (by omega);refine ⟨(p i).toNat,List.mem_range.2 (by omega),?_⟩;rw [Int.toNat_of_nonneg r.1,T.inv i (by omega) (by omega),Int.toNat_natCast]
 have h2:=h1.map fun i=>a.getD i 0
 have e1:=yC a;have e2:=yC b;rw [h.la] at e1;rw [h.lb] at e2;rw [←e1] at h2;rw [e2];refine (List.Perm.of_eq ?_).trans h2;rw [List.map_map];refine List.map_congr_left fun i hi=> ?_
 rw [List.mem_range] at hi;exact ((h.back T).eq i hi).symm
theorem x4 (hn:(n:Int)=AY s) {g:Gp} (h:BJ s g=0):wU n (AT s) g∧BJ s (J5 p g)=0:=by
 have hg:Ak s g.wh g.kd=0:=Md h;have h1:wU n (AT s) g:=by
  unfold Ak at hg;split at hg
  ·cases hg
  ·split at hg
   ·cases hg
   ·split at hg
    ·cases hg
    ·rename_i k1 k2 k3;refine ⟨by omega,by omega,fun hw=> ?_⟩;cases hr:AT s g.kd with
     | true=>rfl
     | false=>exact absurd ⟨hw,hr⟩ k3
 obtain ⟨h2,_,_⟩:=Pl T h1;refine ⟨h1,?_⟩;have hg2:Ak s (J5 p g).wh (J5 p g).kd=0:=by
  unfold Ak at hg ⊢;have ew:(J5 p g).wh=g.wh:=rfl;rw [ew];split at hg
  ·cases hg
  ·rename_i k1;rw [if_neg k1,if_neg (by have:=h2.1;have:=h2.2.1;omega),if_neg];rintro ⟨e1,e2⟩;have:=h2.2.2 e1;rw [e2] at this;cases this
 unfold BJ at h ⊢;have ew:(J5 p g).wh=g.wh:=rfl;have eo:(J5 p g).op=g.op:=rfl;rw [ew] at hg2 ⊢;rw [eo];split at h
 ·cases h
 ·rename_i k1;rw [if_neg k1,if_neg (by rw [hg2];simp)];rw [if_neg (by rw [hg];simp)] at h;exact h
theorem o6 {h:Hd} {b:List Int} (hh:Ag s h=0) (B:xO n p h.bag b):Ag s ⟨b,h.me.map (J5 p)⟩=0∧b.sum=h.bag.sum:=by
 have ho:=DP hh;have hn:(n:Int)=AY s:=by have:=ho.ln;have:=B.la;omega
 have hsum:=AAd (AAp T B);have hml:=ho.ml;unfold By at hml;split at hml
 ·cases hml
 rename_i hmm;have hme:=fun g hg=>x4 T hn (K7 hml g hg)
 have hin:∀g∈h.me,wU n (AT s) g:=fun g hg=>(hme g hg).1
 have hcn:=ho.cn;unfold Be at hcn;split at hcn
 ·cases hcn
 split at hcn
 ·cases hcn
 rename_i hfar;have hc2:Be s b=0:=by
  unfold Be;rw [if_neg (by have:=B.lb;omega),if_neg (fun e=>hfar (AAZ T B e))]
 have hm2:By s (h.me.map (J5 p))=0:=by
  unfold By;rw [if_neg (by rw [List.length_map];exact hmm)];refine Wa fun g hg=> ?_
  obtain ⟨x,hx,rfl⟩:=List.mem_map.1 hg;exact (hme x hx).2
 have hT:=FD h.me h.bag (fun g hg=>by rw [B.la];exact wS T (hin g hg));have hT2:=FD (h.me.map (J5 p)) b (fun g hg=>by rw [B.lb];exact wS T (AAF T hin g hg));have V:=(AU ho.va).co;have hle:∀j,(Bi h.bag h.me).getD j 0≤s.co:=fun j=>Lu (P:=fun z=>z≤s.co) (fun z hz=>ho.tot z hz) (by omega) j
 refine ⟨?_,hsum⟩;unfold Ag;dsimp only;rw [if_neg (by simp [ho.va]),if_neg (by simp [hc2]),if_neg (by simp [hm2])];have hany:(Bi b (h.me.map (J5 p))).any (fun z=>decide (s.co<z))=false:=D0 fun j hj=>by
  have e1:(Bi b (h.me.map (J5 p))).getD j 0=(Bi b (h.me.map (J5 p)))[j]:=by simp [hj]
  rw [DV,B.lb] at hj;have r:=T.rg j (by omega) (by omega);have e2:=yT T (i:=(p j).toNat) (by omega) hin;rw [Int.toNat_of_nonneg r.1,T.inv j (by omega) (by omega),Int.toNat_natCast] at e2;rw [←e1,hT2,e2,←(B.back T).eq j hj];have h2:=hle (p j).toNat;rw [hT] at h2;simp only [decide_eq_false_iff_not];omega
 have lo:=ho.lo;unfold Ag at hh;rw [if_neg (by simp [ho.va]),if_neg (by simp [ho.cn]),if_neg (by simp [ho.ml])] at hh;rw [hany,if_neg (by simp),hsum,List.length_map];split at hh
 ·cases hh
 ·exact hh
theorem xT {h:Hd} {b:List Int} (hh:Ag s h=0) (B:xO n p h.bag b):Am s ⟨b,h.me.map (J5 p)⟩=Am s h:=by
 obtain ⟨h1,h2⟩:=o6 T hh B;unfold Am;rw [h1,hh];dsimp only;rw [h2,List.length_map]
end
structure FsW (s:AL) (n:Nat) (p:Int→Int) (l m:List Fm):Prop where
 ln:m.length=l.length
 w:∀i (h1:i<l.length) (h2:i<m.length),qFw n p l[i] m[i]
 k4:∀f∈l,f.wh=4→AAR s n p
 k5:∀f∈l,f.wh=5→AAE p
theorem y6 {A A' :Fm→List (List Gp)} {me me' :List Gp} {k k' :Int} {l m:List Fm} (hl:m.length=l.length) (h:∀i (h1:i<l.length) (h2:i<m.length),(i8 (A l[i]) k).length=(i8 (A' m[i]) k').length):∀n,(Kn A me k l n).length=(Kn A' me' k' m n).length
 | 0=>rfl
 | n+1=>by
  rw [Kn,Kn,List.length_append,List.length_append,y6 hl h n];congr 1;by_cases hn:n<l.length
  ·rw [List.getElem?_eq_getElem hn,List.getElem?_eq_getElem (show n<m.length by omega)];dsimp only;rw [xS,xS];exact h n hn (by omega)
  ·rw [List.getElem?_eq_none (by omega),List.getElem?_eq_none (show m.length≤n by omega)]
theorem xU {l:List Fm} {s:AL} (h:A6 s l=0) {i:Nat} (hi:i<l.length):Az s l[i]=0:=(Ht h).2.2 _ (List.getElem_mem hi)
section
variable {s:AL} {n:Nat} {p:Int→Int} (T:yJ (AT s) n p) {l m:List Fm} (hl:A6 s l=0) (hm:A6 s m=0) (qFW:FsW s n p l m)
include T hl hm qFW
theorem AAV {h:Hd} {b:List Int} (hh:Ag s h=0) (B:xO n p h.bag b) {k:Nat} (hk:k<n):(Mz s l h k).length=(Mz s m ⟨b,h.me.map (J5 p)⟩ (p k)).length:=by
 have hf:=xT T hh B;obtain ⟨h1,_⟩:=o6 T hh B;have r:=T.rg k (by omega) (by omega);have e:=B.eq k hk;have ea:RJ s h l k=RJ s ⟨b,h.me.map (J5 p)⟩ m (p k):=by
  unfold RJ Ch;rw [hl,hm,hh,h1,hf];dsimp only;rw [e,B.la,B.lb,Int.toNat_natCast,decide_eq_true r.1,decide_eq_true r.2,decide_eq_true (show (0:Int)≤k by omega),decide_eq_true (show (k:Int)<n by omega)]
 unfold Mz GI;rw [←ea];by_cases ha:RJ s h l k=true
 ·rw [if_pos ha,if_pos ha,qFW.ln];have hU:Am s h=true:=by
   unfold RJ at ha;simp only [Bool.and_eq_true] at ha;exact ha.1.1.1.2
  exact y6 qFW.ln (fun i h1 h2=>(AAa T (xU hl h1) (xU hm h2) hU (hf.trans hU) B (by simp) (qFW.w i h1 h2) (qFW.k4 _ (List.getElem_mem h1)) (qFW.k5 _ (List.getElem_mem h1))).2 (by omega) (by omega)) _
 ·rw [if_neg ha,if_neg ha]
theorem AAm {h:Hd} {b:List Int} (hh:Ag s h=0) (B:xO n p h.bag b):Ug s l h=Ug s m ⟨b,h.me.map (J5 p)⟩:=by
 have hf:=xT T hh B;obtain ⟨h1,_⟩:=o6 T hh B;unfold Ug Dn Ch;rw [hl,hm,hh,h1,hf];by_cases hU:Am s h=true
 ·rw [hU];have key:GZ (Hf s h) l=GZ (Hf s ⟨b,h.me.map (J5 p)⟩) m:=by
   unfold GZ;have hw:=fun i h1 h2=>(AAa T (xU hl (i:=i) h1) (xU hm h2) hU (hf.trans hU) B (o:=⟨b,h.me.map (J5 p)⟩) (by simp) (qFW.w i h1 h2) (qFW.k4 _ (List.getElem_mem h1)) (qFW.k5 _ (List.getElem_mem h1))).1
   have hln:=qFW.ln;rw [Bool.eq_iff_iff,List.any_eq_true,List.any_eq_true];constructor
   ·rintro ⟨f,hf,h0⟩;obtain ⟨i,hi,rfl⟩:=List.getElem_of_mem hf;rw [decide_eq_true_eq] at h0;exact ⟨m[i]'(by omega),List.getElem_mem _,by rw [decide_eq_true_eq];exact (hw i hi (by omega)).1 h0⟩
   ·rintro ⟨f,hf,h0⟩;obtain ⟨i,hi,rfl⟩:=List.getElem_of_mem hf;rw [decide_eq_true_eq] at h0;exact ⟨l[i]'(by omega),List.getElem_mem _,by rw [decide_eq_true_eq];exact (hw i (by omega) hi).2 h0⟩
  rw [key]
 ·have:Am s h=false:=by simpa using hU
  rw [this];simp
theorem AAv {h:Hd} {b:List Int} (hh:Ag s h=0) (B:xO n p h.bag b):GR (Hm s m ⟨b,h.me.map (J5 p)⟩)∧(∀z∈Hm s l h,0≤z∧z<n)∧∀z,z∈Hm s m ⟨b,h.me.map (J5 p)⟩↔∃k∈Hm s l h,z=p k:=by
 have hf:=xT T hh B;obtain ⟨h1,_⟩:=o6 T hh B;have ho:=DP hh;have hn:(n:Int)=AY s:=by have:=ho.ln;have:=B.la;omega
 have hml:=ho.ml;unfold By at hml;split at hml
 ·cases hml
 have hin:∀g∈h.me,wU n (AT s) g:=fun g hg=>(x4 T hn (K7 hml g hg)).1
 have hback:=wM T hin;have more:∀k:Nat,k<n→Ug s l ⟨Aq h.bag k,h.me⟩=Ug s m ⟨Aq b (p k),h.me.map (J5 p)⟩:=fun k hk=>by
  have r:=T.rg k (by omega) (by omega);have B1:xO n p (Aq h.bag k) (Aq b (p k)):=⟨by rw [Cy,B.la],by rw [Cy,B.lb],fun i hi=>by
   have ri:=T.rg i (by omega) (by omega)
   rw [Gx r.1 (by rw [B.lb];exact r.2),Gx (show (0:Int)≤k by omega) (by rw [B.la];omega),B.eq i hi,Int.toNat_of_nonneg ri.1]
   by_cases e:(k:Int)=i
   ·rw [e];simp
   ·rw [if_neg e,if_neg fun e2=>e (T.inj (by omega) (by omega) (by omega) (by omega) e2)]⟩
  by_cases hk1:Ag s ⟨Aq h.bag k,h.me⟩=0
  ·exact AAm T hl hm qFW hk1 B1
  ·have hk2:Ag s ⟨Aq b (p k),h.me.map (J5 p)⟩≠0:=fun e=>by
    have:=(o6 T e (B1.back T)).1;dsimp only at this;rw [hback] at this;exact hk1 this
   unfold Ug Dn Ch;rw [decide_eq_false hk1,decide_eq_false hk2];simp
 have e1:Ch s l h=true:=by unfold Ch;rw [hl,hh];rfl
 have e2:Ch s m ⟨b,h.me.map (J5 p)⟩=true:=by unfold Ch;rw [hm,h1];rfl
 unfold Hm DC;rw [e1,e2,hf];by_cases hU:Am s h=true
 ·rw [hU,if_neg (by simp),if_neg (by simp)];exact ⟨List.Pairwise.nil,(fun z hz=>by cases hz),fun z=>⟨(fun hz=>by cases hz),(fun ⟨_,hk,_⟩=>by cases hk)⟩⟩
 ·have hU' :Am s h=false:=by simpa using hU
  rw [hU',if_pos ⟨rfl,rfl⟩,if_pos ⟨rfl,rfl⟩];dsimp only;rw [B.la,B.lb];have qu1:=zA (W:=fun k=>Dn s ⟨Aq h.bag k,h.me⟩ (Hf s ⟨Aq h.bag k,h.me⟩) l) n;have qu2:=zA (W:=fun k=>Dn s ⟨Aq b k,h.me.map (J5 p)⟩ (Hf s ⟨Aq b k,h.me.map (J5 p)⟩) m) n;refine ⟨qu2.2,fun z hz=>⟨wt_nn hz,qu1.1 z hz⟩,fun z=>⟨fun hz=> ?_,?_⟩⟩
  ·have z0:=wt_nn hz;have z1:=qu2.1 z hz;obtain ⟨j,rfl⟩:=Int.eq_ofNat_of_zero_le z0;have r:=T.rg j z0 z1;refine ⟨p j,?_,(T.inv j z0 z1).symm⟩;have hj:=(xG (by omega)).1 hz;have hm:=more (p j).toNat (by omega);rw [Int.toNat_of_nonneg r.1,T.inv j z0 z1] at hm;have:=(xG (W:=fun k=>Dn s ⟨Aq h.bag k,h.me⟩ (Hf s ⟨Aq h.bag k,h.me⟩) l) (k:=(p j).toNat) (n:=n) (by omega)).2 (by
    rw [Int.toNat_of_nonneg r.1]
    exact hm.trans hj)
   rwa [Int.toNat_of_nonneg r.1] at this
  ·rintro ⟨k,hk,rfl⟩;have k0:=wt_nn hk;have k1:=qu1.1 k hk;obtain ⟨j,rfl⟩:=Int.eq_ofNat_of_zero_le k0;have r:=T.rg j k0 k1;have hj:=(xG (by omega)).1 hk;have hm:=more j (by omega);have:=(xG (W:=fun k=>Dn s ⟨Aq b k,h.me.map (J5 p)⟩ (Hf s ⟨Aq b k,h.me.map (J5 p)⟩) m) (k:=(p j).toNat) (n:=n) (by omega)).2 (by
    rw [Int.toNat_of_nonneg r.1]
    exact hm.symm.trans hj)
   rwa [Int.toNat_of_nonneg r.1] at this
where
 wt_nn {W:Nat→Bool} {z:Int}:∀{n:Nat},z∈Gv W n→0≤z
  | 0,h=>by cases h
  | n+1,h=>by
   rw [Gv,List.mem_append] at h
   rcases h with h|h
   ·exact wt_nn h
   ·split at h
    ·simp at h;omega
    ·cases h
end
def A1 (s:AL) (k a b:Int):Int :=
 if (Bm s k).1= -4 then -1
 else if (a<0∨b<0∨(s.su.length:Int)≤a∨(s.su.length:Int)≤b)∨s.su.getD a.toNat 0≠s.su.getD b.toNat 0∨((Bm s k).1≠a∧(Bm s k).1≠b) then k
 else Aj (s.su.take (a+b-(Bm s k).1).toNat)+(Bm s k).2
def Sg (s:AL) (su a b:Int):Prop:=(a<0∨b<0∨(s.su.length:Int)≤a∨(s.su.length:Int)≤b)∨s.su.getD a.toNat 0≠s.su.getD b.toNat 0∨(su≠a∧su≠b)
theorem wV {s:AL} {k su r a b:Int} (h:Bm s k=(su,r)) (h4:su≠-4) (hc:Sg s su a b):A1 s k a b=k:=by
 unfold A1;rw [h];simp only;rw [if_neg h4];exact if_pos hc
theorem zY {s:AL} {k su r a b:Int} (h:Bm s k=(su,r)) (h4:su≠-4) (hc:¬Sg s su a b):A1 s k a b=Aj (s.su.take (a+b-su).toNat)+r:=by
 unfold A1;rw [h];simp only;rw [if_neg h4];exact if_neg hc
theorem ABS {s:AL} {su a b:Int} (hc:¬Sg s su a b):∃(j i:Nat) (hj:j<s.su.length) (hi:i<s.su.length),su=j∧a+b-su=i∧s.su[j]=s.su[i]∧¬Sg s i a b∧a+b-(i:Int)=j:=by
 have hc0:=hc;unfold Sg at hc;have h1:0≤a∧a<s.su.length∧0≤b∧b<s.su.length∧s.su.getD a.toNat 0=s.su.getD b.toNat 0∧(su=a∨su=b):=by
  refine ⟨by omega,by omega,by omega,by omega,?_,by omega⟩;by_cases h:s.su.getD a.toNat 0=s.su.getD b.toNat 0
  ·exact h
  ·exact absurd (.inr (.inl h)) hc
 obtain ⟨a0,a1,b0,b1,he,hs⟩:=h1;obtain ⟨p,rfl⟩:=Int.eq_ofNat_of_zero_le a0;obtain ⟨q,rfl⟩:=Int.eq_ofNat_of_zero_le b0;have hp:p<s.su.length:=by omega
 have hq:q<s.su.length:=by omega
 have he2:=he;rw [show s.su.getD ((p:Nat):Int).toNat 0=s.su[p] by simp [List.getD,hp],show s.su.getD ((q:Nat):Int).toNat 0=s.su[q] by simp [List.getD,hq]] at he2;have hst:∀i:Nat,(i=p∨i=q)→¬Sg s (i:Int) p q:=fun i hi h=>by
  unfold Sg at h;rcases h with h|h|h
  ·omega
  ·exact h he
  ·omega
 rcases hs with rfl|rfl
 ·exact ⟨p,q,hp,hq,rfl,by omega,he2,hst q (.inr rfl),by omega⟩
 ·exact ⟨q,p,hq,hp,rfl,by omega,he2.symm,hst p (.inl rfl),by omega⟩
theorem W5 {s:AL} (e:AP s=0) {j:Nat} (hj:j<s.su.length) {r:Int} (h0:0≤r) (h1:r<s.su[j]):Bm s (Aj (s.su.take j)+r)=((j:Int),r):=by
 have h:=Kr (RZ e (k:=Aj (s.su.take j)+r) (j:=j) (r:=r.toNat) ⟨hj,by omega,by omega⟩);rwa [Int.toNat_of_nonneg h0] at h
theorem w9 {s:AL} (e:AP s=0) {j:Nat} (hj:j<s.su.length) {r:Int} (h0:0≤r) (h1:r<s.su[j]):0≤Aj (s.su.take j)+r∧Aj (s.su.take j)+r<AY s:=by
 have V:=AU e;have hs:∀z∈s.su,0≤z:=fun z hz=>by have:=V.su z hz;omega
 have h3:=GG s.su (j+1) hs;rw [List.take_succ_eq_append_getElem hj,List.sum_append] at h3;have h4:0≤(s.su.take j).sum:=GJ fun z hz=>hs z (List.mem_of_mem_take hz)
 rw [F1 e];unfold AQ;have:=V.wi;have:=V.dr;rw [Gh,Gh];simp at h3;omega
theorem yN {s:AL} {k:Int} (h0:0≤k) (h1:k<((D7 s).length:Int)) (h:Bm s k=(-4,0)):False:=by
 have hm:=WU h0 h1;rw [h] at hm;by_cases e:AP s=0
 ·rcases Ra e hm with ⟨j,q,_,h2⟩|⟨q,_,_,h2⟩|⟨q,_,_,h2⟩|⟨q,_,_,h2⟩<;>(simp only at h2;injection h2 with h2 _;omega)
 ·have:=LX s;rw [if_neg e] at this;omega
theorem f8 {s:AL} (e:AP s=0) {k:Int} (h0:0≤k) (h1:k<AY s):(∃(j:Nat) (r:Int) (hj:j<s.su.length),0≤r∧r<s.su[j]∧k=Aj (s.su.take j)+r∧Bm s k=((j:Int),r))∨∃su r:Int,Bm s k=(su,r)∧(su= -1∨su= -2∨su= -3):=by
 cases Gj s k with
 | none h =>
  have hl:=LX s;rw [if_pos e] at hl;have V:=AU e;have:=V.fl;rw [F1 e] at h1;have:=yN h0 (by omega) h;exact this.elim
 | suit _ j r h hj hr hk=>exact .inl ⟨j,r,hj,by omega,hr,hk,h⟩
 | other _ su r h hs=>exact .inr ⟨su,r,h,hs⟩
theorem xL {s:AL} {j:Nat} (e:AP s=0) (hj:j<s.su.length) {r:Int} (h0:0≤r) (h1:r<s.su[j]):AT s (Aj (s.su.take j)+r)=decide (r+2<s.su[j]):=by
 unfold AT;rw [W5 e hj h0 h1];dsimp only;rw [KX hj,decide_eq_true (show (0:Int)≤(j:Int) by omega),Bool.true_and]
theorem y7 {s:AL} {k:Int} (h:AT s k=true):∃(e:AP s=0) (j:Nat) (r:Int) (hj:j<s.su.length),0≤r∧r+2<s.su[j]∧k=Aj (s.su.take j)+r:=by
 unfold AT at h;simp only [Bool.and_eq_true,decide_eq_true_eq] at h;cases Gj s k with
 | none e=>rw [e] at h;simp at h
 | other _ su r e hs=>rw [e] at h;simp only at h;omega
 | suit e j r e2 hj hr hk =>
  rw [e2] at h;simp only at h;rw [KX hj] at h;exact ⟨e,j,r,hj,by omega,by omega,hk⟩
theorem A4 {s:AL} {j:Nat} (e:AP s=0) (hj:j<s.su.length) {r:Int} (h0:0≤r) (h1:r<s.su[j]):A3 s (Aj (s.su.take j)+r)=Aj (s.su.take j)+(s.su[j]-1-r):=by
 unfold A3;rw [W5 e hj h0 h1];dsimp only;rw [if_neg (by omega),if_neg (by omega),KX hj];omega
theorem Sl {s:AL} {k su r:Int} (h:Bm s k=(su,r)) (hs:su= -1∨su= -2∨su= -3):A3 s k=k:=by
 unfold A3;rw [h];dsimp only;rw [if_neg (by omega),if_pos (by omega)]
theorem yL {s:AL} (e:AP s=0) {n:Nat} (hn:(n:Int)=AY s):yJ (AT s) n (A3 s) where
 rok k h:=by have:=Ct h;omega
 rg k h0 h1:=by
  rcases f8 e h0 (by omega) with ⟨j,r,hj,r0,r1,rfl,_⟩|⟨su,r,h,hs⟩
  ·rw [A4 e hj r0 r1,hn];exact w9 e hj (by omega) (by omega)
  ·rw [Sl h hs];exact ⟨h0,h1⟩
 inv k h0 h1:=by
  rcases f8 e h0 (by omega) with ⟨j,r,hj,r0,r1,rfl,_⟩|⟨su,r,h,hs⟩
  ·rw [A4 e hj r0 r1,A4 e hj (by omega) (by omega)];omega
  ·rw [Sl h hs,Sl h hs]
 run k h:=by
  obtain ⟨_,j,r,hj,r0,r1,rfl⟩:=y7 h;refine ⟨Aj (s.su.take j)+(s.su[j]-1-(r+2)),?_, .inr ⟨?_,?_,?_⟩⟩
  ·rw [xL e hj (by omega) (by omega)];simp;omega
  ·rw [A4 e hj r0 (by omega)];omega
  ·rw [Int.add_assoc,A4 e hj (by omega) (by omega)];omega
  ·rw [Int.add_assoc,A4 e hj (by omega) (by omega)]
theorem f7 {s:AL} {k su r:Int} (a b:Int) (h:Bm s k=(su,r)) (hs:su= -1∨su= -2∨su= -3):A1 s k a b=k:=by
 refine wV h (by omega) ?_;unfold Sg;by_cases h:a<0∨b<0
 ·exact .inl (by omega)
 ·exact .inr (.inr (by omega))
theorem k8 {s:AL} (e:AP s=0) (a b:Int) {j:Nat} (hj:j<s.su.length):∃(i:Nat) (hi:i<s.su.length),s.su[i]=s.su[j]∧(∀r:Int,0≤r→r<s.su[j]→A1 s (Aj (s.su.take j)+r) a b=Aj (s.su.take i)+r)∧
  (∀r:Int,0≤r→r<s.su[i]→A1 s (Aj (s.su.take i)+r) a b=Aj (s.su.take j)+r)∧((i=j∧Sg s j a b)∨(¬Sg s j a b∧(i:Int)=a+b-j)):=by
 by_cases hc:Sg s j a b
 ·have h:∀r:Int,0≤r→r<s.su[j]→A1 s (Aj (s.su.take j)+r) a b=Aj (s.su.take j)+r:=fun r r0 r1=>wV (W5 e hj r0 r1) (by omega) hc
  exact ⟨j,hj,rfl,h,h, .inl ⟨rfl,hc⟩⟩
 ·obtain ⟨j',i,hj',hi,e1,e2,e3,e4,e5⟩:=ABS hc;obtain rfl:j' =j:=by omega
  refine ⟨i,hi,e3.symm,fun r r0 r1=> ?_,fun r r0 r1=> ?_, .inr ⟨hc,e2.symm⟩⟩
  ·rw [zY (W5 e hj r0 r1) (by omega) hc,e2,Int.toNat_natCast]
  ·rw [zY (W5 e hi r0 r1) (by omega) e4,e5,Int.toNat_natCast]
theorem yI {s:AL} (e:AP s=0) {n:Nat} (hn:(n:Int)=AY s) (a b:Int):yJ (AT s) n (fun k=>A1 s k a b) where
 rok k h:=by have:=Ct h;omega
 rg k h0 h1:=by
  rcases f8 e h0 (by omega) with ⟨j,r,hj,r0,r1,rfl,_⟩|⟨su,r,h,hs⟩
  ·obtain ⟨i,hi,hl,h2,_,_⟩:=k8 e a b hj;rw [h2 r r0 r1,hn];exact w9 e hi r0 (by omega)
  ·rw [f7 a b h hs];exact ⟨h0,h1⟩
 inv k h0 h1:=by
  rcases f8 e h0 (by omega) with ⟨j,r,hj,r0,r1,rfl,_⟩|⟨su,r,h,hs⟩
  ·obtain ⟨i,hi,hl,h2,h3,_⟩:=k8 e a b hj;rw [h2 r r0 r1,h3 r r0 (by omega)]
  ·rw [f7 a b h hs,f7 a b h hs]
 run k h:=by
  obtain ⟨_,j,r,hj,r0,r1,rfl⟩:=y7 h;obtain ⟨i,hi,hl,h2,h3,_⟩:=k8 e a b hj;refine ⟨Aj (s.su.take i)+r,?_, .inl ⟨?_,?_,?_⟩⟩
  ·rw [xL e hi (by omega) (by omega)];simp;omega
  ·exact h2 r r0 (by omega)
  ·rw [Int.add_assoc,h2 _ (by omega) (by omega)];omega
  ·rw [Int.add_assoc,h2 _ (by omega) (by omega)];omega
def swW (w:List Int) (a b:Nat):List Int:=(w.set a (w.getD b 0)).set b (w.getD a 0)
theorem ABH:∀w∈Au,∀a∈[0,1,2],∀b∈[0,1,2],swW w a b∈Au∧∀i∈[0,1,2],(swW w a b).getD i 0=if i=a then w.getD b 0 else if i=b then w.getD a 0 else w.getD i 0:=by decide
def miW (w:List Int) (t:Int):List Int:=w.map fun c=>(t-c) % 3
theorem ABE:∀w∈Au,∀t∈[(0:Int),1,2],miW w t∈Au∧∀i∈[0,1,2],(miW w t).getD i 0=(t-w.getD i 0) % 3:=by decide
theorem AAr {a:Nat} (h:a<3):a∈[0,1,2]:=by
 rcases (show a=0∨a=1∨a=2 by omega) with rfl|rfl|rfl<;>simp
theorem w8 {s:AL} (e:AP s=0) {j:Nat} (hj:j<s.su.length) {r:Int} (r0:0≤r) (r1:r<s.su[j]) {k:Nat} (hk:(k:Int)=Aj (s.su.take j)+r):QH s k=j∧SC s k=r:=by
 unfold QH SC;rw [hk,W5 e hj r0 r1];exact ⟨rfl,rfl⟩
theorem AAW {s:AL} (e:AP s=0) {n:Nat} (hn:(n:Int)=AY s) {a b:Int} (ha:0≤a∧a<3) (hb:0≤b∧b<3):AAR s n (fun k=>A1 s k a b):=fun w hw=>by
 have V:=AU e;have hl3:=V.su3;obtain ⟨a,rfl⟩:=Int.eq_ofNat_of_zero_le ha.1;obtain ⟨b,rfl⟩:=Int.eq_ofNat_of_zero_le hb.1;obtain ⟨q1,q2⟩:=ABH w hw a (AAr (by omega)) b (AAr (by omega));have T:=yI e hn a b;by_cases hA:a<s.su.length∧b<s.su.length∧s.su.getD a 0=s.su.getD b 0
 ·refine ⟨swW w a b,q1,fun k hk=> ?_⟩;have rg:=T.rg k (by omega) (by omega);rcases f8 e (k:=k) (by omega) (by omega) with ⟨j,r,hj,r0,r1,hk2,hp⟩|⟨su,r,h,hs⟩
  ·obtain ⟨i,hi,hl,h2,_,hc⟩:=k8 e a b hj;have e1:A1 s k a b=Aj (s.su.take i)+r:=by rw [hk2];exact h2 r r0 r1
   obtain ⟨s1,s2⟩:=w8 e hj r0 r1 hk2;obtain ⟨s3,qs4⟩:=w8 e hi r0 (by omega) (k:=(A1 s k a b).toNat) (by rw [Int.toNat_of_nonneg (by rw [e1];exact (w9 e hi r0 (by omega)).1)];exact e1);refine ⟨fun h=>by omega,fun _ hf=> ?_⟩;unfold eD at hf ⊢;rw [s1,s2] at hf;rw [s3,qs4];simp only [decide_eq_true_eq,Int.toNat_natCast] at hf ⊢;rw [hf,q2 i (AAr (by omega))];rcases hc with ⟨rfl,hc⟩|⟨hc,hi2⟩
   ·by_cases h1:i=a
    ·by_cases h3:a=b
     ·rw [if_pos h1,←h3,←h1]
     ·exfalso;unfold Sg at hc;rcases hc with hc|hc|hc
      ·omega
      ·exact hc (by simp only [Int.toNat_natCast];exact hA.2.2)
      ·omega
    ·by_cases h4:i=b
     ·exfalso;unfold Sg at hc;rcases hc with hc|hc|hc
      ·omega
      ·exact hc (by simp only [Int.toNat_natCast];exact hA.2.2)
      ·omega
     ·rw [if_neg h1,if_neg h4]
   ·unfold Sg at hc;have hj2:(j:Int)=a∨(j:Int)=b:=by omega
    by_cases h1:i=a
    ·rw [if_pos h1,show b=j by omega]
    ·rw [if_neg h1,if_pos (show i=b by omega),show a=j by omega]
  ·have e1:=f7 (a:=a) (b:=b) h hs;have s1:QH s k=su:=by unfold QH;rw [h]
   dsimp only;rw [e1,Int.toNat_natCast,s1];exact ⟨id,fun h=>by omega⟩
 ·refine ⟨w,hw,fun k hk=> ?_⟩;have e1:A1 s k a b=k:=by
   rcases f8 e (k:=k) (by omega) (by omega) with ⟨j,r,hj,r0,r1,hk2,hp⟩|⟨su,r,h,hs⟩
   ·refine wV hp (by omega) ?_;unfold Sg;by_cases h1:a<s.su.length∧b<s.su.length
    ·by_cases h2:s.su.getD a 0=s.su.getD b 0
     ·exact absurd ⟨h1.1,h1.2,h2⟩ hA
     ·exact .inr (.inl (by simp only [Int.toNat_natCast];exact h2))
    ·exact .inl (by omega)
   ·exact f7 a b h hs
  dsimp only;rw [e1,Int.toNat_natCast];exact ⟨id,fun _=>id⟩
theorem yM {s:AL} (e:AP s=0) {n:Nat} (hn:(n:Int)=AY s) {L:Int} (hL:∀z∈s.su,z=L):AAR s n (A3 s):=fun w hw=>by
 have V:=AU e;have hl3:=V.su3;obtain ⟨t,ht,htm⟩:∃t:Int,(L-1) % 3=t∧t∈[(0:Int),1,2]:=⟨_,rfl,by
  have h0:=Int.emod_nonneg (L-1) (show (3:Int)≠0 by decide)
  have h1:=Int.emod_lt_of_pos (L-1) (show (0:Int)<3 by decide)
  rcases (show (L-1) % 3=0∨(L-1) % 3=1∨(L-1) % 3=2 by omega) with h|h|h<;>rw [h]<;>simp⟩
 obtain ⟨q1,q2⟩:=ABE w hw t htm;refine ⟨miW w t,q1,fun k hk=> ?_⟩;rcases f8 e (k:=k) (by omega) (by omega) with ⟨j,r,hj,r0,r1,hk2,hp⟩|⟨su,r,h,hs⟩
 ·have hz:=hL s.su[j] (List.getElem_mem hj);have e1:A3 s k=Aj (s.su.take j)+(s.su[j]-1-r):=by rw [hk2];exact A4 e hj r0 r1
  obtain ⟨s1,s2⟩:=w8 e hj r0 r1 hk2;obtain ⟨s3,qs4⟩:=w8 e hj (r:=s.su[j]-1-r) (by omega) (by omega) (k:=(A3 s k).toNat) (by rw [Int.toNat_of_nonneg (by rw [e1];exact (w9 e hj (by omega) (by omega)).1)];exact e1);refine ⟨fun h=>by omega,fun _ hf=> ?_⟩;unfold eD at hf ⊢;rw [s1,s2] at hf;rw [s3,qs4];simp only [decide_eq_true_eq,Int.toNat_natCast] at hf ⊢;rw [q2 j (AAr (by omega))];omega
 ·have e1:=Sl h hs;have s1:QH s k=su:=by unfold QH;rw [h]
  rw [e1,Int.toNat_natCast,s1];exact ⟨id,fun h=>by omega⟩
def sw9 (a b:Int) (k:Int):Int:=if k / 9=a then k+9*(b-a) else if k / 9=b then k+9*(a-b) else k
def mi9 (k:Int):Int:=9*(k / 9)+8-k % 9
theorem AA3:∀a∈[(0:Int),1,2],∀b∈[(0:Int),1,2],∀w∈Au,∃w' ∈Au,((JR w).map (sw9 a b)).Perm (JR w'):=by decide +kernel
theorem ABI:∀w∈Au,∃w' ∈Au,((JR w).map mi9).Perm (JR w'):=by decide +kernel
theorem AAw {a:Int} (h:0≤a∧a<3):a∈[(0:Int),1,2]:=by
 rcases (show a=0∨a=1∨a=2 by omega) with rfl|rfl|rfl<;>simp
theorem xM {s:AL} (h9:s.su=[9,9,9]) {z:Int} (h0:0≤z) (h1:z<27):∃(j:Nat) (hj:j<s.su.length),(j:Int)=z / 9∧s.su[j]=9∧Aj (s.su.take j)=9*(z / 9):=by
 rcases (show z / 9=0∨z / 9=1∨z / 9=2 by omega) with h|h|h
 ·exact ⟨0,by rw [h9];simp,by omega,by simp [h9],by rw [h9,h];rfl⟩
 ·exact ⟨1,by rw [h9];simp,by omega,by simp [h9],by rw [h9,h];rfl⟩
 ·exact ⟨2,by rw [h9];simp,by omega,by simp [h9],by rw [h9,h];rfl⟩
theorem AAx {w:List Int} (hw:w∈Au):D8 27 (JR w):=by
 obtain ⟨a,b,c,rfl,ha,hb,hc⟩:=Gq w hw;exact SW ha hb hc (Nat.le_refl _)
theorem yO {s:AL} (e:AP s=0) (h9:s.su=[9,9,9]):AAE (A3 s):=fun w hw=>by
 obtain ⟨w',hw',h⟩:=ABI w hw;refine ⟨w',hw',?_⟩;have:(JR w).map (A3 s)=(JR w).map mi9:=List.map_congr_left fun z hz=>by
  obtain ⟨z0,z1⟩:=AAx hw z hz;obtain ⟨j,hj,h1,h2,h3⟩:=xM h9 z0 z1;have:=A4 e hj (r:=z % 9) (by omega) (by omega);rw [h3,show 9*(z / 9)+z % 9=z by omega,h2] at this;rw [this];unfold mi9;omega
 rw [this];exact h
theorem AAb {s:AL} (e:AP s=0) (h9:s.su=[9,9,9]) {a b:Int} (ha:0≤a∧a<3) (hb:0≤b∧b<3):AAE (fun k=>A1 s k a b):=fun w hw=>by
 obtain ⟨w',hw',h⟩:=AA3 a (AAw ha) b (AAw hb) w hw;refine ⟨w',hw',?_⟩;have:(JR w).map (fun k=>A1 s k a b)=(JR w).map (sw9 a b):=List.map_congr_left fun z hz=>by
  obtain ⟨z0,z1⟩:=AAx hw z hz;obtain ⟨j,hj,h1,h2,h3⟩:=xM h9 z0 z1;have hl:s.su.length=3:=by rw [h9];rfl
  obtain ⟨i,hi,g1,g2,_,g4⟩:=k8 e a b hj;have:=g2 (z % 9) (by omega) (by omega);rw [h3,show 9*(z / 9)+z % 9=z by omega] at this;rw [this];have hst:∀i:Nat,i<3→Aj (s.su.take i)=9*i:=fun i hi=>by
   rcases (show i=0∨i=1∨i=2 by omega) with rfl|rfl|rfl<;>rw [h9]<;>rfl
  rw [hst i (by omega)];have hd:∀x:Int,0≤x→x<3→s.su.getD x.toNat 0=9:=fun x x0 x1=>by
   rw [h9];rcases (show x.toNat=0∨x.toNat=1∨x.toNat=2 by omega) with h|h|h<;>rw [h]<;>rfl
  unfold sw9;rcases g4 with ⟨rfl,hc⟩|⟨hc,hi2⟩
  ·unfold Sg at hc;rcases hc with hc|hc|hc
   ·omega
   ·rw [hd a ha.1 ha.2,hd b hb.1 hb.2] at hc;exact absurd rfl hc
   ·rw [if_neg (by omega),if_neg (by omega)];omega
  ·unfold Sg at hc;have hj2:(j:Int)=a∨(j:Int)=b:=by omega
   by_cases h5:z / 9=a
   ·rw [if_pos h5];omega
   ·rw [if_neg h5,if_pos (by omega)];omega
 rw [this];exact h
def o0 (x:Int) (l:List Int):Nat→Nat
 | 0=>0
 | n+1=>match l[n]? with
  | some y=>if x<y then o0 x l n else n+1
  | none=>n+1
def wZ (l:List Int) (x:Int):List Int:=l.take (o0 x l l.length)++x::l.drop (o0 x l l.length)
def xQ (l:List Int):List Int:=l.foldl wZ []
theorem xW (x:Int) (l:List Int):∀n,o0 x l n≤n
 | 0=>Nat.le_refl _
 | n+1=>by
  unfold o0;split
  ·split
   ·have:=xW x l n;omega
   ·omega
  ·omega
theorem AAM (l:List Int) (x:Int):(wZ l x).length=l.length+1:=by
 have:=xW x l l.length;simp [wZ];omega
theorem yE (l:List Int) {i:Nat} (h:i<l.length):xQ (l.take (i+1))=wZ (xQ (l.take i)) l[i]:=by
 unfold xQ;rw [List.take_succ_eq_append_getElem h,List.foldl_append];rfl
theorem y8 (l:List Int):∀{i:Nat},i≤l.length→(xQ (l.take i)).length=i
 | 0,_=>by simp [xQ]
 | i+1,h=>by rw [yE l (by omega),AAM,y8 l (by omega)]
theorem z7 {x:Int} {l:List Int} (hs:l.Pairwise (· ≤·)):∀n,n≤l.length→(∀i (h:i<l.length),o0 x l n≤i→i<n→x≤l[i])∧∀i (h:i<l.length),i<o0 x l n→l[i]≤x
 | 0,_=>⟨fun i _ _ h=>absurd h (by omega),fun i _ h=>absurd h (by simp [o0])⟩
 | n+1,hn=>by
  obtain ⟨h1,h2⟩:=z7 hs n (by omega);have e:o0 x l (n+1)=if x<l[n] then o0 x l n else n+1:=by
   rw [o0,List.getElem?_eq_getElem (show n<l.length by omega)]
  rw [e];by_cases hx:x<l[n]
  ·rw [if_pos hx];refine ⟨fun i hi h3 h4=> ?_,h2⟩;by_cases hin:i=n
   ·subst hin;omega
   ·exact h1 i hi h3 (by omega)
  ·rw [if_neg hx];refine ⟨fun i _ h3 h4=>by omega,fun i hi h3=> ?_⟩;by_cases hin:i=n
   ·subst hin;omega
   ·have:=List.pairwise_iff_getElem.1 hs i n hi (by omega) (by omega);omega
theorem AAu {x:Int} {l:List Int} (hs:l.Pairwise (· ≤·)):(wZ l x).Perm (x::l)∧(wZ l x).Pairwise (· ≤·):=by
 obtain ⟨h1,h2⟩:=z7 (x:=x) hs l.length (Nat.le_refl _);have hp:=xW x l l.length;unfold wZ;obtain ⟨p,he⟩:∃p,o0 x l l.length=p:=⟨_,rfl⟩;rw [he] at h1 h2 hp ⊢;refine ⟨List.perm_middle.trans (by rw [List.take_append_drop]),?_⟩;rw [List.pairwise_append];have ha:∀a∈l.take p,a≤x:=fun a ha=>by
  obtain ⟨i,hi,rfl⟩:=List.getElem_of_mem ha;rw [List.length_take] at hi;rw [List.getElem_take];exact h2 i (by omega) (by omega)
 have hb:∀b∈l.drop p,x≤b:=fun b hb=>by
  obtain ⟨i,hi,rfl⟩:=List.getElem_of_mem hb;rw [List.length_drop] at hi;rw [List.getElem_drop];exact h1 (p+i) (by omega) (by omega) (by omega)
 refine ⟨hs.take,List.pairwise_cons.2 ⟨hb,hs.drop⟩,fun a h3 b h4=> ?_⟩;rcases List.mem_cons.1 h4 with rfl|h4
 ·exact ha a h3
 ·have:=ha a h3;have:=hb b h4;omega
theorem yY:∀(l m:List Int),m.Pairwise (· ≤·)→(l.foldl wZ m).Perm (l++m)∧(l.foldl wZ m).Pairwise (· ≤·)
 | [],m,h=>⟨.refl _,h⟩
 | x::l,m,h=>by
  obtain ⟨h1,h2⟩:=AAu (x:=x) h;obtain ⟨h3,h4⟩:=yY l (wZ m x) h2;exact ⟨h3.trans ((List.Perm.append_left l h1).trans List.perm_middle),h4⟩
theorem wQ (l:List Int):(xQ l).Perm l:=by
 have:=(yY l [] List.Pairwise.nil).1;rwa [List.append_nil] at this
theorem yW (l:List Int):(xQ l).Pairwise (· ≤·):=(yY l [] List.Pairwise.nil).2
theorem zP {l:List Int} (h:l.Pairwise (· ≤·)) (hn:l.Nodup):GR l:=by
 unfold GR;exact (h.and hn).imp (fun {a b} h=>by have:=h.1;have:=h.2;omega)
theorem xB {K co:Int} {sev:Bool} (hco:1≤co):∀{ks:List Int} {p:Option Int} {m:Int},BS K co sev p m ks=0→(∀q,p=some q→m≤co→m+ks.count q≤co)∧∀z,p≠some z→(ks.count z:Int)≤co
 | [],_,_,_=>⟨fun q _ h=>by simp;exact h,fun z _=>by simp;omega⟩
 | k::l,p,m,h=>by
  have hk:=YB h;have one:BS K co sev (some k) 1 l=0→∀z,z≠k→(((k::l).count z:Nat):Int)≤co:=fun h1 z hz=>by
   have:=(xB hco h1).2 z (fun e=>by injection e with e;exact hz e.symm);rw [List.count_cons_of_ne (fun e=>hz e.symm)];exact this
  have two:BS K co sev (some k) 1 l=0→(((k::l).count k:Nat):Int)≤co:=fun h1=>by
   have:=(xB hco h1).1 k rfl hco;rw [List.count_cons_self];omega
  cases p with
  | none =>
   rw [BS] at h;split at h
   ·cases h
   ·refine ⟨(fun q e=>by cases e),fun z _=> ?_⟩;by_cases hz:z=k
    ·subst hz;exact two h
    ·exact one h z hz
  | some q =>
   rw [BS] at h;split at h
   ·cases h
   ·split at h
    ·cases h
    ·rename_i h1 h2;split at h
     ·rename_i hkq;subst hkq;split at h
      ·cases h
      ·rename_i h3;obtain ⟨a1,a2⟩:=xB hco h;refine ⟨fun q' e hm=> ?_,fun z hz=> ?_⟩
       ·injection e with e
        subst e;have:=a1 k rfl (by omega);rw [List.count_cons_self];omega
       ·have:=a2 z hz;rw [List.count_cons_of_ne (fun e=>hz (by rw [e]))];exact this
     ·rename_i hkq;refine ⟨fun q' e hm=> ?_,fun z hz=> ?_⟩
      ·injection e with e
       subst e;have h3:=hk.2.1 q rfl;have:(k::l).count q=0:=by
        rw [List.count_eq_zero];intro hm';rcases List.mem_cons.1 hm' with e|hm'
        ·exact hkq e.symm
        ·have h4:=(h3 k (by simp)).1;have h5:=hk.2.2.1;have:=(List.pairwise_cons.1 h5).1 q hm';omega
       rw [this];simpa using hm
      ·by_cases hzk:z=k
       ·subst hzk;exact two h
       ·exact one h z hzk
theorem xJ {K co:Int} {sev:Bool}:∀{ks:List Int} {p:Option Int} {m:Int},(∀z∈ks,0≤z∧z<K)→(∀q,p=some q→∀z∈ks,q≤z∧(sev=false→q<z))→ks.Pairwise (· ≤·)→(sev=false→GR ks)→
  (∀q,p=some q→m+ks.count q≤co)→(∀z,p≠some z→(ks.count z:Int)≤co)→BS K co sev p m ks=0
 | [],p,_,_,_,_,_,_,_=>by cases p<;>rfl
 | k::l,p,m,hr,hq,hs,hR,hc,hd=>by
  have hk:=hr k (by simp);have hs2:=List.pairwise_cons.1 hs;have hr2:∀z∈l,0≤z∧z<K:=fun z hz=>hr z (by simp [hz])
  have hR2:sev=false→GR l:=fun h=>(List.pairwise_cons.1 (hR h)).2
  have hq2:∀q,some k=some q→∀z∈l,q≤z∧(sev=false→q<z):=fun q e z hz=>by
   injection e with e
   subst e;exact ⟨hs2.1 z hz,fun h=>(List.pairwise_cons.1 (hR h)).1 z hz⟩
  have one:(((k::l).count k:Nat):Int)≤co→(∀z,z≠k→(((k::l).count z:Nat):Int)≤co)→BS K co sev (some k) 1 l=0:=fun h1 h2 =>
   xJ hr2 hq2 hs2.2 hR2 (fun q e=>by
    injection e with e
    subst e
    rw [List.count_cons_self] at h1;omega) (fun z hz=>by
    have hzk:z≠k:=fun e=>hz (by rw [e])
    have:=h2 z hzk
    rwa [List.count_cons_of_ne (fun e=>hzk e.symm)] at this)
  cases p with
  | none =>
   rw [BS,if_neg (by omega)];exact one (hd k (by simp)) (fun z _=>hd z (by simp))
  | some q =>
   have h1:=hq q rfl k (by simp);rw [BS,if_neg (by omega),if_neg (by rintro (h|⟨h,h2⟩);omega;have:=h1.2 h2;omega)];by_cases hkq:k=q
   ·subst hkq;have h2:=hc k rfl;rw [List.count_cons_self] at h2;rw [if_pos rfl,if_neg (by omega)];refine xJ hr2 hq2 hs2.2 hR2 (fun q e=>by
     injection e with e
     subst e;omega) (fun z hz=> ?_)
    have:=hd z hz;rwa [List.count_cons_of_ne (fun e=>hz (by rw [e]))] at this
   ·rw [if_neg hkq];refine one (hd k (fun e=>hkq (by injection e with e;exact e.symm))) (fun z hz=> ?_);by_cases hzq:z=q
    ·subst hzq;have h2:=hc z rfl;have h3:(k::l).count z=0:=by
      rw [List.count_eq_zero];intro hm';rcases List.mem_cons.1 hm' with e|hm'
      ·exact hkq e.symm
      ·have h5:=hs2.1 z hm';omega
     have h6:=hd k (fun e=>hkq (by injection e with e;exact e.symm));rw [List.count_cons_self] at h6;rw [h3];omega
    ·exact hd z (fun e=>hzq (by injection e with e;exact e.symm))
theorem ABF {rn:Int→Bool} {n:Nat} {p:Int→Int} (T:yJ rn n p) {ks:List Int} (h:D8 n ks) (z:Int):∃y:Int,(ks.map p).count z=0∨(ks.map p).count z=ks.count y:=by
 by_cases hz:z∈ks.map p
 ·obtain ⟨y,hy,rfl⟩:=List.mem_map.1 hz;have hy2:=h y hy;obtain ⟨j,rfl⟩:=Int.eq_ofNat_of_zero_le hy2.1;refine ⟨j, .inr ?_⟩;have r:=T.rg j hy2.1 hy2.2;have:=wT T h (i:=j) (by omega);unfold Cz at this;rw [Int.toNat_of_nonneg r.1] at this;omega
 ·exact ⟨0, .inl (List.count_eq_zero.2 hz)⟩
def yK (p:Int→Int) (f:Fm):Fm:=⟨f.wh,xQ (f.ks.map p),f.ag⟩
theorem zZ {s:AL} {n:Nat} {p:Int→Int} (T:yJ (AT s) n p) (hn:(n:Int)=AY s) {f:Fm} (hf:Az s f=0):Az s (yK p f)=0∧qFw n p f (yK p f):=by
 have F:=Nf hf;have hin:=xZ hn F;have hco:=(AU F.va).co;have hp:=wQ (f.ks.map p);have hl:(xQ (f.ks.map p)).length=f.ks.length:=by rw [hp.length_eq,List.length_map]
 have hw:Cs s (yK p f)↔Cs s f:=by unfold Cs yK;dsimp only;rw [hl]
 have hk:BS (AY s) s.co (f.wh==6) none 0 f.ks=0:=by
  have h:=hf;unfold Az at h;rw [if_neg (by simp [F.va]),if_neg (by have:=F.wh;omega),if_neg F.nw] at h;exact h
 have hc:=(xB hco.1 hk).2;refine ⟨?_,rfl,rfl,hl,fun i hi=> ?_⟩
 ·unfold Az;rw [if_neg (by simp [F.va]),if_neg (by have:=F.wh;show ¬(f.wh<1∨6<f.wh);omega),if_neg (fun h=>F.nw (hw.1 h))];refine xJ (fun z hz=> ?_) (fun q e=>by cases e) (yW _) (fun hs=> ?_) (fun q e=>by cases e) (fun z _=> ?_)
  ·obtain ⟨y,hy,rfl⟩:=List.mem_map.1 (hp.mem_iff.1 hz);have:=hin y hy;rw [←hn];exact T.rg y this.1 this.2
  ·refine zP (yW _) (hp.nodup_iff.2 ?_);have h6:f.wh≠6:=by simpa [yK] using hs
   have hr:=Sn (F.kn.2.2 h6);refine List.pairwise_map.2 (List.Pairwise.imp_of_mem (R:=(· ≠·)) (fun {a b} ha hb hab e=>hab ?_) hr);exact T.inj (hin a ha).1 (hin a ha).2 (hin b hb).1 (hin b hb).2 e
  ·obtain ⟨y,hy|hy⟩:=ABF T hin z
   ·show ((xQ (f.ks.map p)).count z:Int)≤s.co;rw [hp.count_eq,hy];simp;omega
   ·show ((xQ (f.ks.map p)).count z:Int)≤s.co;rw [hp.count_eq,hy];exact hc y (by simp)
 ·unfold yK;dsimp only;rw [←wT T hin hi];unfold Cz;rw [hp.count_eq]
end Go.Proofs.YthblfhgofopcaaaGreat

namespace Go.Proofs.YthblfhgofopcaaaGreat
open Go.RowKit Go.Shelf
attribute [local go_sem] Oper.semAt_some
structure o7 (w:World) (s:AL) (a b:Value) (R K T Z N:Nat) (r to:Int) (A:Nat) (pre:List A9) (W:World):Prop where
 no:∀x∈pre,¬(x.2.1=to∧x.2.2=r)
 qbR:Ei W R 3 [.int .i64 0]
 bK:Ei W K 3 [.int .i64 r]
 bT:Ei W T 3 [.int .i64 to]
 qbZ:Ei W Z 24 (HL s a b)
 g:Aw w W
 lt:N≤A
 bd:w.heap.size≤R∧R<N∧K<N∧T<N∧Z<N
section
variable {w:World} {s:AL} {a b:Value} {R K T Z N:Nat} {r to:Int} {A C:Nat} {pre:List A9} {W W' :World}
theorem o7.turns (h:o7 w s a b R K T Z N r to A pre W) (hC:w.heap.size≤C) (t:CV C A W W'):o7 w s a b R K T Z N r to A pre W' :=by
 have hl:=h.lt;have hb:=h.bd;exact ⟨h.no,t.cells h.qbR (by omega),t.cells h.bK (by omega),t.cells h.bT (by omega),t.cells h.qbZ (by omega),t.grow h.g (by omega) hC,hl,hb⟩
theorem o7.grow (h:o7 w s a b R K T Z N r to A pre W) (g:Aw W W'):o7 w s a b R K T Z N r to A pre W' :=h.turns (Nat.le_refl w.heap.size) (CV.of_grow g)
end
structure x9 (w:World) (R N:Nat) (r to:Int) (A:Nat) (pre:List A9) (W:World):Prop where
 hit:∃x∈pre,x.2.1=to∧x.2.2=r∧Ei W R 3 [.int .i64 x.1]
 g:Aw w W
 lt:N≤A
 bd:w.heap.size≤R∧R<N
theorem x9.turns {w:World} {R N:Nat} {r to:Int} {A C:Nat} {pre:List A9} {W W' :World} (h:x9 w R N r to A pre W) (hC:w.heap.size≤C) (t:CV C A W W'):x9 w R N r to A pre W' :=by
 have hl:=h.lt;have hb:=h.bd;obtain ⟨x,h1,h2,h3,h4⟩:=h.hit;exact ⟨⟨x,h1,h2,h3,t.cells h4 (by omega)⟩,t.grow h.g (by omega) hC,hl,hb⟩
theorem AAC (s:AL) (k:Int):Bm s k=(-4,0)∨∃su r:Int,Bm s k=(su,r)∧-3≤su∧su≤2∧0≤r∧r≤8∧AP s=0∧(su= -3→AQ s≤k):=by
 by_cases e:AP s=0
 ·have V:=AU e;by_cases hk:k<0∨((D7 s).length:Int)≤k
  ·exact .inl (O5 hk)
  ·have hm:=WU (s:=s) (k:=k) (by omega) (by omega);have v1:=V.wi;have v2:=V.dr;have v3:=V.fl;have v4:=V.su3;refine .inr ?_;rcases Ra e hm with ⟨j,r,⟨hj,hr,hk'⟩,h2⟩|⟨r,hr,_,h2⟩|⟨r,hr,_,h2⟩|⟨r,hr,h1,h2⟩
   ·have:=V.su s.su[j] (List.getElem_mem hj);exact ⟨_,_,h2,by omega,by omega,by omega,by omega,e,by omega⟩
   ·exact ⟨_,_,h2,by omega,by omega,by omega,by omega,e,by omega⟩
   ·exact ⟨_,_,h2,by omega,by omega,by omega,by omega,e,by omega⟩
   ·exact ⟨_,_,h2,by omega,by omega,by omega,by omega,e,fun _=>by simp only at h1;unfold AQ;omega⟩
 ·exact .inl (OB k e)
theorem AAI {s:AL} {k a b su r:Int} (he:AP s=0) (hp:Bm s k=(su,r)) (_h4:su≠-4) (hq:¬((a<0∨b<0∨(s.su.length:Int)≤a∨(s.su.length:Int)≤b)∨s.su.getD a.toNat 0≠s.su.getD b.toNat 0∨(su≠a∧su≠b))) :
  (∀x∈D7 s,x.2.1=a+b-su→x.2.2=r→x.1=Aj (s.su.take (a+b-su).toNat)+r)∧∃x∈D7 s,x.2.1=a+b-su∧x.2.2=r:=by
 obtain ⟨i,rfl⟩:=Int.eq_ofNat_of_zero_le (show 0≤a by omega);obtain ⟨j,rfl⟩:=Int.eq_ofNat_of_zero_le (show 0≤b by omega);have hi:i<s.su.length:=by omega
 have hj:j<s.su.length:=by omega
 have hd:s.su.getD ((i:Nat):Int).toNat 0=s.su.getD ((j:Nat):Int).toNat 0:=by
  by_cases h:s.su.getD ((i:Nat):Int).toNat 0=s.su.getD ((j:Nat):Int).toNat 0
  ·exact h
  ·exact absurd (.inr (.inl h)) hq
 rw [show s.su.getD ((i:Nat):Int).toNat 0=s.su[i] by simp [List.getD,hi],show s.su.getD ((j:Nat):Int).toNat 0=s.su[j] by simp [List.getD,hj]] at hd;have hs:su=i∨su=j:=by omega
 rcases Gj s k with h|⟨_,m,q,h,hm,hr,_⟩|⟨_,m,q,h,hm,_,_,_⟩
 ·rw [hp] at h;injection h with h _;omega
 ·rw [hp] at h;injection h with h1 h2
  obtain ⟨t,ht,htl,hlen⟩:∃t:Nat,(i:Int)+(j:Int)-su=t∧∃htl:t<s.su.length,(q:Int)<s.su[t]:=by
   rcases hs with e|e
   ·obtain rfl:m=i:=by omega
    exact ⟨j,by omega,hj,by omega⟩
   ·obtain rfl:m=j:=by omega
    exact ⟨i,by omega,hi,by omega⟩
  rw [ht,Int.toNat_natCast];refine ⟨fun x hx e1 e2=> ?_,⟨_,RZ he ⟨htl,hlen,rfl⟩,rfl,h2.symm⟩⟩;rcases Ra he hx with ⟨j',r',⟨_,_,h'⟩,e⟩|⟨r',_,_,e⟩|⟨r',_,_,e⟩|⟨r',_,_,e⟩
  ·rw [e] at e1 e2;obtain rfl:j' =t:=by simp only at e1;omega
   simp only at e2;omega
  ·rw [e] at e1;simp only at e1;omega
  ·rw [e] at e1;simp only at e1;omega
  ·rw [e] at e1;simp only at e1;omega
 ·rw [hp] at h;injection h with h _;omega
set_option maxRecDepth 100000 in
set_option maxHeartbeats 4000000 in
theorem AAQ (v:Value) (s:AL) (k a b:Int) (w:World) (h:F5 w v s):Calls Tryz.prog 71 #[v, .int .i64 k, .int .i64 a, .int .i64 b] w (OF w (.int .i64 (A1 s k a b))):=by
 have hfin:∀r wf,A1 s k a b=r→Aw w wf→OF w (.int .i64 (A1 s k a b)) (.returned (.int .i64 r)) wf:=fun r wf h hg=>⟨by rw [h],hg⟩
 have HF:=BP hfin;have qPL:=fun W (hg:Aw w W)=>VZ v s k W (h.grow hg)
 clear hfin;have HI:=BP h;obtain ⟨A,c,B,d,rfl,h1,h2⟩:=h.open_;obtain ⟨_,_,e1,c1,m1,r1⟩:=h1;obtain ⟨_,_,e2,d1,m2,r2⟩:=h2;injection e1 with e1 _ e1'
 injection e2 with e2 _ e2'
 subst e1 e1' e2 e2';unfold maxLen at m1 m2;have HG0:=BP (show Aw w (w.alloc (.cells #[.int .i64 s.pl, .slice A s.su.length c, .int .i64 s.wi, .int .i64 s.dr, .int .i64 s.fl, .int .i64 s.co, .int .i64 s.me, .int .i64 s.de, .slice B s.re.length d] 24)) from (Aw.refl w).alloc _);have HB0:=BP (show Ei (w.alloc (.cells #[.int .i64 s.pl, .slice A s.su.length c, .int .i64 s.wi, .int .i64 s.dr, .int .i64 s.fl, .int .i64 s.co, .int .i64 s.me, .int .i64 s.de, .slice B s.re.length d] 24)) w.heap.size 24 (HL s (.slice A s.su.length c) (.slice B s.re.length d)) from heap_alloc_new w _);clear h;have H1:=BP (And.intro (show BO w (.slice A s.su.length c) s.su from ⟨A,c,rfl,c1,by unfold maxLen;omega,r1⟩) (show BO w (.slice B s.re.length d) s.re from ⟨B,d,rfl,d1,by unfold maxLen;omega,r2⟩));have KI:=BP (fun W=>(callsIn_wide.2 (U2 _ s (.slice A s.su.length c) (.slice B s.re.length d) W rfl):CallsIn Fence.wide 9 _ _ _ _ _));refine (callsIn_wide (n:=10)).1 ?_;refine callsIn_of_wp_marks Tryz.func71 rfl trivial ?_ rfl;simp only [Tryz.ntmps71,List.size_toArray,List.length_cons,List.length_nil,Nat.reduceAdd,Nat.reduceSub,Array.replicate_succ,Array.replicate_zero,List.push_toArray,List.append_toArray,List.nil_append,List.cons_append];rcases AAC s k with hp|⟨su,r,hp,hs0,hs1,hr0,hr1,he,-⟩
 ·rw [hp] at qPL;have qPL:=BP (fun W (hg:Aw w W)=>(callsIn_wide.2 (qPL W hg):CallsIn Fence.wide 9 _ _ _ _ _));have HE:=BP (show A1 s k a b= -1 by unfold A1;rw [hp];rfl);clear hp;gi_wp2_with (refine ⟨trivial,?_⟩;gi_at_call 126;refine (qPL.out _ ?_).mono ?_;exact ((Aw.refl w).alloc _).alloc _;rintro e w1 ⟨rfl,hg1⟩;have bR1:=((Ei.new_at (w:=w.alloc (.cells #[.int .i64 s.pl, .slice A s.su.length c, .int .i64 s.wi, .int .i64 s.dr, .int .i64 s.fl, .int .i64 s.co, .int .i64 s.me, .int .i64 s.de, .slice B s.re.length d] 24)) (e:=3) (xs:=[.int .i64 0]) (by simp):Ei _ (w.heap.size+1) 3 [.int .i64 0]).grow hg1).grow ((Aw.refl w1).alloc (.cells #[.int .i64 (0)] 3));have b41:=(((HB0.out.grow ((Aw.refl _).alloc _)).grow hg1)).grow ((Aw.refl w1).alloc (.cells #[.int .i64 (0)] 3));have g2:=((((Aw.refl w).alloc _).alloc _).trans hg1).alloc (.cells #[.int .i64 (0)] 3);have qcR:=bR1.cell 0;have qfR:=bR1.free 0;simp only [List.getElem?_cons_zero] at qcR);refine ⟨.int .i64 (-1),?_,HF.out _ _ HE.out (g2.set (p:=⟨w.heap.size+1,0,none⟩) (by simp) _)⟩;simp [results,Tryz.results71,go_sem,qcR]
 ·rw [hp] at qPL;have qPL:=BP (fun W (hg:Aw w W)=>(callsIn_wide.2 (qPL W hg):CallsIn Fence.wide 9 _ _ _ _ _));have V:=BP (AU he);have q0:¬su< -3:=by omega
  have HS:=BP (show A1 s k a b=if (a<0∨b<0∨(s.su.length:Int)≤a∨(s.su.length:Int)≤b)∨s.su.getD a.toNat 0≠s.su.getD b.toNat 0∨(su≠a∧su≠b) then k else Aj (s.su.take (a+b-su).toNat)+r by
   unfold A1;rw [hp];simp only;rw [if_neg (by omega)])
  have h3:=V.out.su3;have HIT:=BP (fun hq=>AAI (a:=a) (b:=b) he hp (by omega) hq);clear hp he;gi_upto_region 4 with (refine ⟨trivial,?_⟩;gi_at_call 126;refine (qPL.out _ ?_).mono ?_;exact ((Aw.refl w).alloc _).alloc _;rintro e w1 ⟨rfl,hg1⟩;have bR1:=((Ei.new_at (w:=w.alloc (.cells #[.int .i64 s.pl, .slice A s.su.length c, .int .i64 s.wi, .int .i64 s.dr, .int .i64 s.fl, .int .i64 s.co, .int .i64 s.me, .int .i64 s.de, .slice B s.re.length d] 24)) (e:=3) (xs:=[.int .i64 0]) (by simp):Ei _ (w.heap.size+1) 3 [.int .i64 0]).grow hg1).grow ((Aw.refl w1).alloc (.cells #[.int .i64 (r)] 3));have b41:=(((HB0.out.grow ((Aw.refl _).alloc _)).grow hg1)).grow ((Aw.refl w1).alloc (.cells #[.int .i64 (r)] 3));have g2:=((((Aw.refl w).alloc _).alloc _).trans hg1).alloc (.cells #[.int .i64 (r)] 3);have qcR:=bR1.cell 0;have qfR:=bR1.free 0;simp only [List.getElem?_cons_zero] at qcR)
  have hKlt:w1.heap.size<(w1.alloc (.cells #[.int .i64 r] 3)).heap.size:=by simp
  have bK1:Ei (w1.alloc (.cells #[.int .i64 r] 3)) w1.heap.size 3 [.int .i64 r]:=Ei.new_at rfl;clear hg1;generalize w1.heap.size=K at *;generalize w1.alloc (.cells #[.int .i64 r] 3)=w2 at *;obtain ⟨c0,c1,c2,c3,c4,c5,c6,c7,c8⟩:=Ia b41;have BB:=BP (And.intro (And.intro bR1 bK1) (And.intro b41 g2));have hR2:=bR1.lt;clear bR1 bK1 b41 g2;obtain ⟨bb,hbb⟩:∃bb:Bool,bb=decide ((a<0∨b<0∨(s.su.length:Int)≤a∨(s.su.length:Int)≤b)∨s.su.getD a.toNat 0≠s.su.getD b.toNat 0∨(su≠a∧su≠b)):=⟨_,rfl⟩;have HBB:=BP hbb;clear hbb;gi_cut [64] from 22 (fun t wx=>t= .bool bb∧Aw w2 wx)
  case first =>
   have hc:∀(W:World),True:=fun _=>trivial
   clear hc;by_cases b1:a<0
   ·have d1:decide (a<0)=true:=decide_eq_true b1;have HBV:=BP (show bb=true by rw [HBB.out];exact decide_eq_true (.inl (.inl b1)));gi_quiet (fail);gi_wp2_with (fail);gi_meet;exact ⟨by rw [HBV.out],(Aw.refl _).drewN _⟩
   have d1:decide (a<0)=false:=decide_eq_false b1;by_cases b2:b<0
   ·have d2:decide (b<0)=true:=decide_eq_true b2;have HBV:=BP (show bb=true by rw [HBB.out];exact decide_eq_true (.inl (.inr (.inl b2))));gi_quiet (fail);gi_wp2_with (fail);gi_meet;exact ⟨by rw [HBV.out],(Aw.refl _).drewN _⟩
   have d2:decide (b<0)=false:=decide_eq_false b2;by_cases b3:(s.su.length:Int)≤a
   ·have d3:decide ((s.su.length:Int)≤a)=true:=decide_eq_true b3;have HBV:=BP (show bb=true by rw [HBB.out];exact decide_eq_true (.inl (.inr (.inr (.inl b3)))));gi_quiet (fail);gi_wp2_with (fail);gi_meet;exact ⟨by rw [HBV.out],(Aw.refl _).drewN _⟩
   have d3:decide ((s.su.length:Int)≤a)=false:=decide_eq_false b3;by_cases b4:(s.su.length:Int)≤b
   ·have d4:decide ((s.su.length:Int)≤b)=true:=decide_eq_true b4;have HBV:=BP (show bb=true by rw [HBB.out];exact decide_eq_true (.inl (.inr (.inr (.inr b4)))));gi_quiet (fail);gi_wp2_with (fail);gi_meet;exact ⟨by rw [HBV.out],(Aw.refl _).drewN _⟩
   have d4:decide ((s.su.length:Int)≤b)=false:=decide_eq_false b4;obtain ⟨i,rfl⟩:=Int.eq_ofNat_of_zero_le (show 0≤a by omega);obtain ⟨j,rfl⟩:=Int.eq_ofNat_of_zero_le (show 0≤b by omega);have hi:i<s.su.length:=by omega
   have hj:j<s.su.length:=by omega
   have i0:(0:Int)≤(i:Int):=by omega
   have i1:(i:Int)<(s.su.length:Int):=by omega
   have j0:(0:Int)≤(j:Int):=by omega
   have j1:(j:Int)<(s.su.length:Int):=by omega
   obtain ⟨ad,rfl,_,hx⟩:=(r1.grow BB.out.2.2).int hi;obtain ⟨_,e7,_,hy⟩:=(r1.grow BB.out.2.2).int hj;obtain rfl:=Option.some.inj e7;have qHD:=BP (And.intro (show s.su.getD ((i:Nat):Int).toNat 0=s.su[i] by simp [List.getD,hi]) (show s.su.getD ((j:Nat):Int).toNat 0=s.su[j] by simp [List.getD,hj]));clear e7;generalize s.su[i]=zi at *;generalize s.su[j]=zj at *;by_cases b5:zi=zj;case neg =>
    have d5:(zi != zj)=true:=by simp [b5]
    have B5:=BP b5;clear b5;have HBV:=BP (show bb=true by rw [HBB.out];exact decide_eq_true (.inr (.inl (by rw [qHD.out.1,qHD.out.2];exact B5.out))));gi_quiet (fail);gi_wp2_with (fail);gi_meet;exact ⟨by rw [HBV.out],(Aw.refl _).drewN _⟩
   have d5:(zi != zj)=false:=by simp [b5]
   have B5:=BP b5;clear b5;by_cases b6:su=(i:Int)
   ·have d6:(su != (i:Int))=false:=by simp [b6]
    have B6:=BP b6;clear b6;have HBV:=BP (show bb=false by rw [HBB.out];exact decide_eq_false (fun h=>h.elim (fun h=>by omega) (fun h=>h.elim (fun h=>h (by rw [qHD.out.1,qHD.out.2];exact B5.out)) (fun h=>h.1 B6.out))));gi_quiet (fail);gi_wp2_with (fail);gi_meet;exact ⟨by rw [HBV.out],(Aw.refl _).drewN _⟩
   have d6:(su != (i:Int))=true:=by simp [b6]
   by_cases b7:su=(j:Int)
   ·have qd7:(su != (j:Int))=false:=by simp [b7]
    have qB7:=BP b7;clear b6 b7;have HBV:=BP (show bb=false by rw [HBB.out];exact decide_eq_false (fun h=>h.elim (fun h=>by omega) (fun h=>h.elim (fun h=>h (by rw [qHD.out.1,qHD.out.2];exact B5.out)) (fun h=>h.2 qB7.out))));gi_quiet (fail);gi_wp2_with (fail);gi_meet;exact ⟨by rw [HBV.out],(Aw.refl _).drewN _⟩
   have qd7:(su != (j:Int))=true:=by simp [b7]
   have B67:=BP (And.intro b6 b7);clear b6 b7;have HBV:=BP (show bb=true by rw [HBB.out];exact decide_eq_true (.inr (.inr B67.out)));gi_quiet (fail);gi_wp2_with (fail);gi_meet;exact ⟨by rw [HBV.out],(Aw.refl _).drewN _⟩
  case rest =>
   obtain ⟨rfl,hgc⟩:=hcut;have bR3:=BB.out.1.1.grow hgc;have bK3:=BB.out.1.2.grow hgc;have b43:=BB.out.2.1.grow hgc;have g3:=BB.out.2.2.trans hgc;clear c0 c1 c2 c3 c4 c5 c6 c7 c8 qcR qfR;obtain ⟨c0,c1,c2,c3,c4,c5,c6,c7,c8⟩:=Ia b43;have qcR:=bR3.cell 0;have qfR:=bR3.free 0;simp only [List.getElem?_cons_zero] at qcR;have B3:=BP (And.intro (And.intro bR3 bK3) (And.intro b43 g3));have hR3:=bR3.lt;have hK3:=bK3.lt;have h43:=b43.lt;clear bR3 bK3 b43 g3 hgc hKlt hR2;cases bb
   ·have hq:=of_decide_eq_false HBB.out.symm;have ha:0≤a∧a≤2:=by omega
    have hb:0≤b∧b≤2:=by omega
    have hsu:su=a∨su=b:=by omega
    have qHQ:=BP hq;have HSU:=BP hsu;clear hq hsu;gi_wp2_with (refine ⟨trivial,?_⟩;gi_at_call 127;refine (KI.out _).mono ?_;rintro e w' ⟨rfl,rfl⟩);have bT0:Ei ((wc.alloc (.cells #[.int .i64 (a+b-su)] 3)).alloc (.cells #[.int .i64 s.pl, .slice A s.su.length c, .int .i64 s.wi, .int .i64 s.dr, .int .i64 s.fl, .int .i64 s.co, .int .i64 s.me, .int .i64 s.de, .slice B s.re.length d] 24)) wc.heap.size 3 [.int .i64 (a+b-su)]:=Ei.grow (Ei.new_at (xs:=[.int .i64 (a+b-su)]) rfl) ((Aw.refl _).alloc _);have bZ0:Ei ((wc.alloc (.cells #[.int .i64 (a+b-su)] 3)).alloc (.cells #[.int .i64 s.pl, .slice A s.su.length c, .int .i64 s.wi, .int .i64 s.dr, .int .i64 s.fl, .int .i64 s.co, .int .i64 s.me, .int .i64 s.de, .slice B s.re.length d] 24)) (wc.heap.size+1) 24 (HL s (.slice A s.su.length c) (.slice B s.re.length d)):=Ei.new_at (by simp);have g0:Aw wc ((wc.alloc (.cells #[.int .i64 (a+b-su)] 3)).alloc (.cells #[.int .i64 s.pl, .slice A s.su.length c, .int .i64 s.wi, .int .i64 s.dr, .int .i64 s.fl, .int .i64 s.co, .int .i64 s.me, .int .i64 s.de, .slice B s.re.length d] 24)):=((Aw.refl _).alloc _).alloc _;have hsz:((wc.alloc (.cells #[.int .i64 (a+b-su)] 3)).alloc (.cells #[.int .i64 s.pl, .slice A s.su.length c, .int .i64 s.wi, .int .i64 s.dr, .int .i64 s.fl, .int .i64 s.co, .int .i64 s.me, .int .i64 s.de, .slice B s.re.length d] 24)).heap.size=wc.heap.size+2:=by simp
    have qB0:=BP (And.intro (And.intro (B3.out.1.1.grow g0) (B3.out.1.2.grow g0)) (And.intro bT0 (And.intro bZ0 (B3.out.2.2.trans g0))));have qTO:=BP (HIT.out qHQ.out);have HES:=BP (show A1 s k a b=Aj (s.su.take (a+b-su).toNat)+r by rw [HS.out,if_neg qHQ.out]);clear bT0 bZ0 g0 qcR qfR c0 c1 c2 c3 c4 c5 c6 c7 c8;generalize ((wc.alloc (.cells #[.int .i64 (a+b-su)] 3)).alloc (.cells #[.int .i64 s.pl, .slice A s.su.length c, .int .i64 s.wi, .int .i64 s.dr, .int .i64 s.fl, .int .i64 s.co, .int .i64 s.me, .int .i64 s.de, .slice B s.re.length d] 24))=W0 at *;generalize wc.heap.size=T at *;obtain ⟨to,hto⟩:∃to,to=a+b-su:=⟨_,rfl⟩;rw [←hto] at qTO HES qB0;have HTO:=BP hto;clear hto;have hwT:w.heap.size≤T:=by omega
    have hB0:w.heap.size≤W0.heap.size:=by omega
    refine VE (S:=D7 s) (encs:=YE) (Ok:=Mh (T+1) s (.slice A s.su.length c) (.slice B s.re.length d)) (gf:=166) (lb:= #[.pointer (some ⟨T+1,0,none⟩)]) rfl (enters_of Tryz.func166 (by kernel_rfl) rfl) (NS _ s _ _) (fun _=>rfl)
     (fun W hg=>⟨qB0.out.2.2.1.grow hg,H1.out.1.grow (qB0.out.2.2.2.trans hg),H1.out.2.grow (qB0.out.2.2.2.trans hg)⟩)
     (o7 w s (.slice A s.su.length c) (.slice B s.re.length d) (w.heap.size+1) K T (T+1) (T+2) r to) (x9 w (w.heap.size+1) (T+2) r to) (fun A' pre W W' h t=>h.turns (by omega) t) (fun A' pre W W' h t=>h.turns (by omega) t) (fun A' pre W h=>⟨h.qbZ,H1.out.1.grow h.g,H1.out.2.grow h.g⟩)
     (fun A' W hg hA _=>⟨by simp,qB0.out.1.1.grow hg,qB0.out.1.2.grow hg,qB0.out.2.1.grow hg,qB0.out.2.2.1.grow hg,qB0.out.2.2.2.trans hg,by omega,by omega⟩)
     (fun A' pre x a' W=>o7 w s (.slice A s.su.length c) (.slice B s.re.length d) (w.heap.size+1) K T (T+1) (T+2) r to A' pre W∧∃P,A' <P∧Ei W P 136 [.int .i64 x.2.1, .int .i64 x.2.2]∧a' ={ tmps:= #[.agg #[.int .i64 s.pl, .slice A s.su.length c, .int .i64 s.wi, .int .i64 s.dr, .int .i64 s.fl, .int .i64 s.co, .int .i64 s.me, .int .i64 s.de, .slice B s.re.length d], .int .i64 k, .int .i64 a, .int .i64 b, .pointer (some ⟨w.heap.size,0,none⟩),undef,undef,undef, .pointer (some ⟨w.heap.size+1,0,none⟩), .int .i64 su, .pointer (some ⟨K,0,none⟩), .pointer (some ⟨T,0,none⟩), .int .i64 x.1, .pointer (some ⟨P,0,none⟩), .tuple #[.int .i64 su, .int .i64 r], .agg #[.int .i64 s.pl, .slice A s.su.length c, .int .i64 s.wi, .int .i64 s.dr, .int .i64 s.fl, .int .i64 s.co, .int .i64 s.me, .int .i64 s.de, .slice B s.re.length d], .int .i64 k, .tuple #[.int .i64 su, .int .i64 r], .int .i64 su, .int .i64 r, .int .i64 su, .bool (decide (su< -3)),u22,u23,u24,u25,u26,u27,u28,u29,u30,u31,u32,u33,u34,u35,u36,u37,u38,u39,u40,u41,u42,u43,u44,u45,u46,u47,u48,u49,u50,u51,u52,u53,u54,u55,u56,u57,u58,u59,u60,u61,u62,u63, .bool false,u65, .int .i64 a, .int .i64 b, .int .i64 (a+b), .int .i64 su, .int .i64 to, .agg #[.int .i64 s.pl, .slice A s.su.length c, .int .i64 s.wi, .int .i64 s.dr, .int .i64 s.fl, .int .i64 s.co, .int .i64 s.me, .int .i64 s.de, .slice B s.re.length d], .func (.func 166) #[] #[.pointer (some ⟨T+1,0,none⟩)], .int .i64 x.1, .agg #[.int .i64 x.2.1, .int .i64 x.2.2],u75,u76,u77,u78,u79,u80,u81,u82,u83,u84,u85,u86],defers:=[] })
     (fun A' pre x a' W W' h t=>⟨h.1.turns (by omega) t,h.2.imp fun P hP=>⟨hP.1,t.cells hP.2.1 (by omega),hP.2.2⟩⟩) ?assign ?body ?done ?stop
    case assign =>
     intro l m A' pre x W K' hA hAW hi hpre hK;simp only [YE];gi_wp2;refine hK _ _ (KeepsOthers.alloc _ _) (fun k h1 h2=>Below.heap_alloc _ _ _ (by omega)) ⟨hi.grow ((Aw.refl _).alloc _),_,hAW,heap_alloc_new W _,?_⟩;rw [HTO.out]
    case body =>
     rintro l m A' pre x a' W hA hAW ⟨hi,P,hP,bP,rfl⟩ hpre;have qcT:=hi.bT.cell 0;have cK:=hi.bK.cell 0;have p0:=bP.cell 0;have p1:=bP.cell 1;have r0:=hi.qbR.cell 0;have f0:=hi.qbR.free 0;simp only [List.getElem?_cons_zero,List.getElem?_cons_succ] at qcT cK p0 p1 r0;have hlt:=hi.lt;have hbd:=hi.bd;have HI2:=BP hi;by_cases he:x.2.1=to
     ·have he' :(x.2.1==to)=true:=by simp [he]
      by_cases he2:x.2.2=r
      ·have he2' :(x.2.2==r)=true:=by simp [he2]
       have FIN:=BP (show KeepsOthers W (W.setCell ⟨w.heap.size+1,0,none⟩ (.int .i64 x.1))∧x9 w (w.heap.size+1) (T+2) r to A' (pre++[x]) (W.setCell ⟨w.heap.size+1,0,none⟩ (.int .i64 x.1)) from
        ⟨KeepsOthers.setCell _ _ _,⟨x,by simp,he,he2,hi.qbR.set 0 (.int .i64 x.1)⟩,hi.g.set (p:=⟨w.heap.size+1,0,none⟩) (by simp) (.int .i64 x.1),hlt,by omega⟩)
       clear he he2 hi;gi_wp2;exact FIN.out
      ·have he2' :(x.2.2==r)=false:=by simpa using he2
       have NEW:=BP (show o7 w s (.slice A s.su.length c) (.slice B s.re.length d) (w.heap.size+1) K T (T+1) (T+2) r to A' (pre++[x]) W from ⟨fun y hy=>by
        rcases List.mem_append.1 hy with h|h
        ·exact hi.no y h
        ·simp at h;subst h;exact fun hh=>he2 hh.2,hi.qbR,hi.bK,hi.bT,hi.qbZ,hi.g,hi.lt,hi.bd⟩)
       clear he he2 hi;gi_wp2;exact ⟨KeepsOthers.refl _,fun _ _ _=>rfl,NEW.out⟩
     ·have he' :(x.2.1==to)=false:=by simpa using he
      have NEW:=BP (show o7 w s (.slice A s.su.length c) (.slice B s.re.length d) (w.heap.size+1) K T (T+1) (T+2) r to A' (pre++[x]) W from ⟨fun y hy=>by
       rcases List.mem_append.1 hy with h|h
       ·exact hi.no y h
       ·simp at h;subst h;exact fun hh=>he hh.1,hi.qbR,hi.bK,hi.bT,hi.qbZ,hi.g,hi.lt,hi.bd⟩)
      clear he hi;gi_wp2;exact ⟨KeepsOthers.refl _,fun _ _ _=>rfl,NEW.out⟩
    case done =>
     intro D A' W hD hA hi hDh;obtain ⟨x,hx,e1,e2⟩:=qTO.out.2;exact absurd ⟨e1,e2⟩ (hi.no x hx)
    case stop =>
     intro D A' pre W hD hA hpre hx hDh;obtain ⟨x,hxm,e1,e2,h3⟩:=hx.hit;have HE:=BP (show A1 s k a b=x.1 by rw [HES.out,qTO.out.1 x (hpre.subset hxm) e1 e2]);have t:CV w.heap.size D W (W.putObj D (.deferred none)):=CV.putObj _ hDh rfl (by omega);have hbd:=hx.bd;have k1:Ei (W.putObj D (.deferred none)) (w.heap.size+1) 3 [.int .i64 x.1]:=t.cells h3 (by omega);have FIN:=BP (And.intro (k1.cell 0) (t.grow hx.g (by omega) (Nat.le_refl _)));have HD2:=BP hDh;clear h3 hx hDh t k1 e1 e2;gi_wp2;refine ⟨by simp, .inl ⟨_,_,rfl,run_takeDeferred HD2.out,?_⟩⟩;obtain ⟨q0,G3⟩:=FIN.out;refine ⟨.int .i64 x.1,?_,HF.out _ _ HE.out G3⟩;simp at q0;simp [results,Tryz.results71,go_sem,q0]
   ·have HE:=BP (show A1 s k a b=k by rw [HS.out,if_pos (of_decide_eq_true HBB.out.symm)]);gi_wp2;refine ⟨.int .i64 k,?_,HF.out _ _ HE.out (B3.out.2.2.set (p:=⟨w.heap.size+1,0,none⟩) (by simp) _)⟩;simp [results,Tryz.results71,go_sem,qcR]
end Go.Proofs.YthblfhgofopcaaaGreat

namespace Go.Proofs.YthblfhgofopcaaaGreat
open Go.RowKit
set_option maxRecDepth 100000
set_option maxHeartbeats 2000000
theorem AA1 {c:Cx} {h:HF} {x x' x2 x3:AV} {vals:Array Value} (k:QX c h [x,x',x2,x3] vals):∃v v' v2 v3,vals= #[v,v',v2,v3]∧AS c h x v∧AS c h x' v' ∧AS c h x2 v2∧AS c h x3 v3:=by
 obtain ⟨l⟩:=vals;obtain ⟨hl,hr⟩:=k;match l,hl with
 | [v,v',v2,v3],_=>exact ⟨v,v',v2,v3,rfl,hr 0 _ v rfl rfl,hr 1 _ v' rfl rfl,hr 2 _ v2 rfl rfl,hr 3 _ v3 rfl rfl⟩
theorem AAA (s:AL) (k a b:Int):AM Tryz.prog 71 [AO s,I k,I a,I b] (I (A1 s k a b)):=LQ ⟨_,_,Tryz.func71,rfl,rfl⟩ fun c vals hx=>by
 obtain ⟨v,v1,v2,v3,rfl,k1,k2,k3,k4⟩:=AA1 hx;have:=As k2;subst this;have:=As k3;subst this;have:=As k4;subst this;exact AAQ v s k a b c.w (Pj k1)
theorem yA (s:AL) (k:Int):AM Tryz.prog 72 [AO s,I k] (I (A3 s k)):=by
 have CP:=JQ s k;unfold A3;cases Gj s k with
 | none h =>
  rw [h] at CP ⊢;refine zb Tryz.ntmps72 ?_;let tb:=yX;let lv:=xY;(repeat' first|refine zS CP ?_|refine zQ ?_|refine zN ?_;intro K hC hK|refine zM ?_;try clear hK hC K|refine zC ?_ ?_<;>intro hb|refine zK ?_;intro Jo JU JC AH AJ AG)
  refine Aa [] ?_ ?_<;>(first|exact AK|refine zE ?_)
 | suit e j r h hj hr hk =>
  rw [h] at CP ⊢;dsimp only;rw [if_neg (by omega),if_neg (by omega),KX hj];have V:=AU e;have h3:=V.su3;have hst:=Nn h3 V.su j;obtain ⟨z,hz⟩:∃z,s.su[j]=z:=⟨_,rfl⟩;have hz9:=V.su z (by rw [←hz];exact List.getElem_mem hj);rw [hz] at hr ⊢;generalize Aj (s.su.take j)=S at *;refine zb Tryz.ntmps72 ?_;let tb:=yX;let lv:=xY;(have fa:=hz;(repeat' first|refine zS CP ?_|refine zQ ?_|refine zN ?_;intro K hC hK|refine zM ?_;try clear hK hC K|refine zC ?_ ?_<;>intro hb|refine zK ?_;intro Jo JU JC AH AJ AG)<;>(try clear fa))
  refine Aa [] ?_ ?_<;>(first|exact AK|refine zE ?_)
 | other e su r h hs hr hl hk =>
  rw [h] at CP ⊢;dsimp only;rw [if_neg (by omega),if_pos (by omega)];refine zb Tryz.ntmps72 ?_;let tb:=yX;let lv:=xY;(repeat' first|refine zS CP ?_|refine zQ ?_|refine zN ?_;intro K hC hK|refine zM ?_;try clear hK hC K|refine zC ?_ ?_<;>intro hb|refine zK ?_;intro Jo JU JC AH AJ AG)
  refine Aa [] ?_ ?_<;>(first|exact AK|refine zE ?_)
theorem x8 (l:List Int) (h1:l.length≤1000000):AM Tryz.prog 128 [AN false l] (AN true (xQ l)):=by
 by_cases h0:0<l.length
 ·refine zb Tryz.ntmps128 ?_;let tb:=zL;let lv:=yD;(repeat' first|refine zQ ?_|refine zN ?_;intro K hC hK|refine zM ?_;try clear hK hC K|refine zC ?_ ?_<;>intro hb|refine zK ?_;intro Jo JU JC AH AJ AG)
  refine A8 (BY 3 500 0 1 (by rfl) (by rfl)) (α:=Nat×Nat) (fun a=>[(0,AN false l),(3, .rsl 0 a.2 0 (xQ (l.take a.1)).length),(4,I a.1)]) (fun a=>[(0, .arr a.2 1 ((xQ (l.take a.1)).map I))])
   (fun a=>l.length-a.1) (fun a=>a.1≤l.length) [(500,0)] [(2924,0)] 0 [0,3,4] 900 zg zg (0,0) (by simp) (by (have fa:=(And.intro @Dg.eq_1 (And.intro (And.intro @Ci.eq_1 @Ci.eq_2) (And.intro @xQ.eq_1 (And.intro @List.take_zero.{0} @List.foldl_nil.{0,0}))));exact CZ)) ?_
  rintro ⟨i,g⟩ k1 J hcJ hJ;dsimp only at k1 hJ ⊢;by_cases hi:i<l.length
  ·have hs:=yE l hi;have hn:=y8 l k1;obtain ⟨O,hO⟩:∃O,xQ (l.take i)=O:=⟨_,rfl⟩;obtain ⟨z,hz⟩:∃z,l[i]=z:=⟨_,rfl⟩;rw [hO,hz] at hs;rw [hO] at hn ⊢;(repeat' first|refine zQ ?_|refine zN ?_;intro K hC hK|refine zM ?_;try clear hK hC K|refine zC ?_ ?_<;>intro hb|refine zK ?_;intro Jo JU JC AH AJ AG)
   refine At (α:=Nat) (fun p=>[(0,AN false l),(3, .rsl 0 g 0 O.length),(4,I i),(5,I p)]) (fun p=>[(0, .arr g 1 (O.map I))])
    (fun p=>p) (fun p=>p≤O.length∧o0 z O O.length=o0 z O p) [(0,0)] [(0,0)] 0 [0,3,4,5] 1900 zg zg O.length ⟨Nat.le_refl _,rfl⟩ (by exact CZ) ?_
   rintro p ⟨k2,k3⟩ J2 hcJ2 hJ2;have e14:min p O.length=p:=by omega
   have e16:List.take p (List.take p O)=O.take p:=by rw [List.take_take,Nat.min_self]
   have e18:List.take (O.length-p) (List.drop p O)=O.drop p:=List.take_of_length_le (by simp);have e19:List.take (p+1) (O.take p++[z])=O.take p++[z]:=List.take_of_length_le (by simp;omega);have e20:(((p:Nat):Int)-0).toNat=p:=by omega
   have hlen2:(O.take p++z::O.drop p).length=p+1+(O.length-p):=by simp;omega
   have hins:o0 z O O.length=p→wZ O z=O.take p++z::O.drop p:=fun h=>by unfold wZ;rw [h]
   by_cases hp:0<p
   ·obtain ⟨y,hy⟩:∃y,O[p-1]=y:=⟨_,rfl⟩;have hc:((p-1:Nat):Int)=(p:Int)-1:=by omega
    have hstep:o0 z O p=if z<y then o0 z O (p-1) else p:=by
     obtain ⟨q,rfl⟩:∃q,p=q+1:=⟨p-1,by omega⟩;rw [o0,List.getElem?_eq_getElem (by omega)];simp only [Nat.add_sub_cancel] at hy ⊢;rw [hy]
    by_cases hb2:z<y
    ·rw [if_pos hb2] at hstep;(have fa:=(And.intro hz hy);(repeat' first|refine zQ ?_|refine zN ?_;intro K hC hK|refine zM ?_;try clear hK hC K|refine zC ?_ ?_<;>intro hb|refine zK ?_;intro Jo JU JC AH AJ AG)<;>(try clear fa))
     exact hJ2 _ (p-1) (by omega) ⟨by omega,by rw [k3,hstep]⟩ (by (have fa:=hc;exact CZ))
    ·rw [if_neg hb2] at hstep;have hI:=hins (by rw [k3,hstep]);(have fa:=(And.intro hz (And.intro hy (And.intro e14 (And.intro e16 (And.intro e18 (And.intro e19 (And.intro e20 Nat.min_self)))))));(repeat' first|refine zQ ?_|refine zN ?_;intro K hC hK|refine zM ?_;try clear hK hC K|refine zC ?_ ?_<;>intro hb|refine zK ?_;intro Jo JU JC AH AJ AG)<;>(try clear fa))
     refine hJ _ (i+1,_) (by dsimp only;omega) (by dsimp only;omega) (by (have fa:=(And.intro hs (And.intro hI (And.intro hlen2 (And.intro e19 (And.intro @List.append_assoc.{0} (And.intro @List.cons_append.{0} @List.nil_append.{0}))))));exact CZ))
   ·have hI:=hins (by rw [k3,show p=0 by omega];rfl);(have fa:=(And.intro hz (And.intro e14 (And.intro e16 (And.intro e18 (And.intro e19 (And.intro e20 Nat.min_self))))));(repeat' first|refine zQ ?_|refine zN ?_;intro K hC hK|refine zM ?_;try clear hK hC K|refine zC ?_ ?_<;>intro hb|refine zK ?_;intro Jo JU JC AH AJ AG)<;>(try clear fa))
    refine hJ _ (i+1,_) (by dsimp only;omega) (by dsimp only;omega) (by (have fa:=(And.intro hs (And.intro hI (And.intro hlen2 (And.intro e19 (And.intro @List.append_assoc.{0} (And.intro @List.cons_append.{0} @List.nil_append.{0}))))));exact CZ))
  ·have hT:l.take i=l:=List.take_of_length_le (by omega);(repeat' first|refine zQ ?_|refine zN ?_;intro K hC hK|refine zM ?_;try clear hK hC K|refine zC ?_ ?_<;>intro hb|refine zK ?_;intro Jo JU JC AH AJ AG)
   refine Aa [] ?_ ?_<;>(first|exact AK|refine zE ?_);rw [hT]
 ·obtain rfl:l=[]:=List.eq_nil_of_length_eq_zero (by omega);refine Ba ?_;refine zb Tryz.ntmps128 ?_;let tb:=zL;let lv:=yD;(repeat' first|refine zQ ?_|refine zN ?_;intro K hC hK|refine zM ?_;try clear hK hC K|refine zC ?_ ?_<;>intro hb|refine zK ?_;intro Jo JU JC AH AJ AG)
  refine Ab 0 (fun k σ=>k=0∧σ=⟨900,[(0,AN false []),(3,Bw),(4,I k)],[]⟩) [] [] 0 [0,3,4] 900 zf zf ⟨rfl,by exact zV⟩ ?_;rintro k σ' hk ⟨rfl,rfl⟩ J hcJ hJ;(repeat' first|refine zQ ?_|refine zN ?_;intro K hC hK|refine zM ?_;try clear hK hC K|refine zC ?_ ?_<;>intro hb|refine zK ?_;intro Jo JU JC AH AJ AG)
  refine Aa [] ?_ ?_<;>(first|exact AK|refine zE ?_);exact An.nil _ _
def wY (s:AL):Bool:=s.su.all fun z=>z==s.su.getD 0 0
theorem AAD (s:AL) (hl:s.su.length≤1000000):AM Tryz.prog 73 [AO s] (B (wY s)):=by
 refine zb Tryz.ntmps73 ?_;let tb:=AA7;let lv:=AAk;(repeat' first|refine zQ ?_|refine zN ?_;intro K hC hK|refine zM ?_;try clear hK hC K|refine zC ?_ ?_<;>intro hb|refine zK ?_;intro Jo JU JC AH AJ AG)
 refine Ab s.su.length (fun k σ=>(∀i:Nat,i<k→s.su.getD i 0=s.su.getD 0 0)∧σ=⟨900,[(1, .ref 0 0 0 0),(3,I k)],[(0, .arr 0 9 [AO s])]⟩) [(0,0)] [(0,0)] 0 [1,3] 900 zf zf ⟨fun i h=>absurd h (by omega),by exact zV⟩ ?_;rintro k σ' hk ⟨hR,rfl⟩ J hcJ hJ;by_cases hlt:k<s.su.length
 ·obtain ⟨z,hz⟩:∃z,s.su[k]=z:=⟨_,rfl⟩;obtain ⟨y,hy⟩:∃y,s.su[0]'(by omega)=y:=⟨_,rfl⟩;have e1:s.su.getD k 0=z:=by simp [hlt,hz]
  have e2:s.su.getD 0 0=y:=by rw [List.getD_eq_getElem?_getD,List.getElem?_eq_getElem (by omega),hy];rfl
  by_cases hzy:z=y
  ·subst hzy;(have fa:=(And.intro hz (And.intro hy @bne_self_eq_false.{0}));(repeat' first|refine zQ ?_|refine zN ?_;intro K hC hK|refine zM ?_;try clear hK hC K|refine zC ?_ ?_<;>intro hb|refine zK ?_;intro Jo JU JC AH AJ AG)<;>(try clear fa))
   exact hJ _ hlt ⟨fun i hi=>by
    by_cases e:i=k
    ·subst e;rw [e1,e2]
    ·exact hR i (by omega),by exact zV⟩
  ·(have fa:=(And.intro hz hy);(repeat' first|refine zQ ?_|refine zN ?_;intro K hC hK|refine zM ?_;try clear hK hC K|refine zC ?_ ?_<;>intro hb|refine zK ?_;intro Jo JU JC AH AJ AG)<;>(try clear fa))
   refine Aa [] ?_ ?_<;>(first|exact AK|refine zE ?_);unfold wY;have:(s.su.all fun z=>z==s.su.getD 0 0)=false:=List.all_eq_false.2 ⟨z,(by rw [←hz];exact List.getElem_mem hlt:z∈s.su),(by rw [e2];simpa using hzy:¬(z==s.su.getD 0 0)=true)⟩;rw [this]
 ·(repeat' first|refine zQ ?_|refine zN ?_;intro K hC hK|refine zM ?_;try clear hK hC K|refine zC ?_ ?_<;>intro hb|refine zK ?_;intro Jo JU JC AH AJ AG)
  refine Aa [] ?_ ?_<;>(first|exact AK|refine zE ?_);unfold wY;have:(s.su.all fun z=>z==s.su.getD 0 0)=true:=List.all_eq_true.2 fun z hz=>by
   obtain ⟨i,hi,rfl⟩:=List.getElem_of_mem hz;have:=hR i (by omega);rw [List.getD_eq_getElem?_getD,List.getElem?_eq_getElem hi] at this;simpa using this
  rw [this]
theorem AAs {s:AL} (h:wY s=true):∀z∈s.su,z=s.su.getD 0 0:=fun z hz=>by
 unfold wY at h;simpa using List.all_eq_true.1 h z hz
def o8 (l to:List Int):List Int:=l.map fun z=>to.getD z.toNat 0
theorem AAB {l to:List Int} {i:Nat} (h:i<l.length):o8 (l.take (i+1)) to=o8 (l.take i) to++[to.getD l[i].toNat 0]:=by
 unfold o8;rw [List.take_succ_eq_append_getElem h,List.map_append];rfl
theorem yB (l to:List Int) {i:Nat} (h:i≤l.length):(o8 (l.take i) to).length=i:=by
 unfold o8;rw [List.length_map,List.length_take];omega
theorem wW (l to:List Int) (h1:l.length≤1000000) (h2:to.length≤1000000) (hr:∀z∈l,0≤z∧z<(to.length:Int)):AM Tryz.prog 74 [AN false l,AN false to] (AN true (xQ (o8 l to))):=by
 have CR:=x8 (o8 l to) (by unfold o8;rw [List.length_map];exact h1);refine zb Tryz.ntmps74 ?_;let tb:=ABD;let lv:=AAn;(repeat' first|refine zQ ?_|refine zN ?_;intro K hC hK|refine zM ?_;try clear hK hC K|refine zC ?_ ?_<;>intro hb|refine zK ?_;intro Jo JU JC AH AJ AG)
 refine A8 (BY 5 500 0 1 (by rfl) (by rfl)) (α:=Nat×Nat) (fun a=>[(0,AN false l),(1,AN false to),(5, .rsl 0 a.2 0 a.1),(6,I a.1)]) (fun a=>[(0, .arr a.2 1 ((o8 (l.take a.1) to).map I))])
  (fun a=>l.length-a.1) (fun a=>a.1≤l.length) [(500,0)] [(0,0)] 0 [0,1,5,6] 900 zg zg (0,0) (by simp) (by (have fa:=(And.intro @Dg.eq_1 (And.intro (And.intro @Ci.eq_1 @Ci.eq_2) (And.intro @o8.eq_1 (And.intro @List.take_zero.{0} @List.map_nil.{0,0}))));exact CZ)) ?_
 rintro ⟨i,g⟩ k1 J hcJ hJ;dsimp only at k1 hJ ⊢;by_cases hi:i<l.length
 ·have hs:=AAB (to:=to) hi;have hn:=yB l to k1;obtain ⟨O,hO⟩:∃O,o8 (l.take i) to=O:=⟨_,rfl⟩;obtain ⟨z,hz⟩:∃z,l[i]=z:=⟨_,rfl⟩;have hzr:=hr z (by rw [←hz];exact List.getElem_mem hi);obtain ⟨y,hy⟩:∃y,to[z.toNat]'(by omega)=y:=⟨_,rfl⟩;rw [hO,hz] at hs;rw [hO] at hn ⊢;have e2:to.getD z.toNat 0=y:=by rw [List.getD_eq_getElem?_getD,List.getElem?_eq_getElem (by omega),hy];rfl
  rw [e2] at hs;have hT:List.take i O=O:=List.take_of_length_le (by omega);have hT2:i≤O.length:=by omega
  (have fa:=(And.intro hz (And.intro hy (And.intro hT hT2)));(repeat' first|refine zQ ?_|refine zN ?_;intro K hC hK|refine zM ?_;try clear hK hC K|refine zC ?_ ?_<;>intro hb|refine zK ?_;intro Jo JU JC AH AJ AG)<;>(try clear fa))
  refine hJ _ (i+1,_) (by dsimp only;omega) (by dsimp only;omega) (by (have fa:=(And.intro hs hT);exact CZ))
 ·obtain rfl:i=l.length:=by omega
  have hT:l.take l.length=l:=List.take_length;have hn:=yB l to k1;rw [hT] at hn ⊢;obtain ⟨O,hO⟩:∃O,o8 l to=O:=⟨_,rfl⟩;rw [hO] at CR hn ⊢;have hT1:List.take l.length O=O:=List.take_of_length_le (by omega);have hT2:l.length≤O.length:=by omega
  (have fa:=(And.intro hT1 hT2);(repeat' first|refine zS CR ?_|refine zQ ?_|refine zN ?_;intro K hC hK|refine zM ?_;try clear hK hC K|refine zC ?_ ?_<;>intro hb|refine zK ?_;intro Jo JU JC AH AJ AG)<;>(try clear fa))
  refine Aa [] ?_ ?_<;>(first|exact AK|refine zE ?_);rw [hO]
def toP (to:List Int) (k:Int):Int:=to.getD k.toNat 0
def x5 (X to:List Int):Nat→List Int
 | 0=>List.replicate X.length 0
 | k+1=>(x5 X to k).set (to.getD k 0).toNat (X.getD k 0)
theorem l4 (X to:List Int):∀k,(x5 X to k).length=X.length
 | 0=>List.length_replicate
 | k+1=>by rw [x5,List.length_set,l4 X to k]
def tnM (to:List Int) (ms:List Gp):List Gp:=ms.map (J5 (toP to))
theorem AAL {to:List Int} {ms:List Gp} {i:Nat} (h:i<ms.length):tnM to (ms.take (i+1))=tnM to (ms.take i)++[J5 (toP to) ms[i]]:=by
 unfold tnM;rw [List.take_succ_eq_append_getElem h,List.map_append];rfl
theorem y9 (to:List Int) (ms:List Gp) {i:Nat} (h:i≤ms.length):(tnM to (ms.take i)).length=i:=by
 unfold tnM;rw [List.length_map,List.length_take];omega
set_option maxHeartbeats 8000000 in
theorem yG (X to:List Int) (ms:List Gp) (hX:X.length≤1000) (hm:ms.length≤1000) (hl:to.length=X.length) (hr:∀z∈to,0≤z∧z<(X.length:Int)) (hg:∀g∈ms,0≤g.kd∧g.kd<(X.length:Int)∧(g.wh=1→g.kd+2<(X.length:Int))):AM Tryz.prog 75 [Cb false ⟨X,ms⟩,AN false to] (Cb true ⟨x5 X to X.length,tnM to ms⟩):=by
 have h0:List.replicate X.length (AV.v (.int .i64 0))=(List.replicate X.length 0).map I:=by rw [List.map_replicate]
 refine zb Tryz.ntmps75 ?_;let tb:=AA6;let lv:=AAq;(have fa:=h0;(repeat' first|refine zQ ?_|refine zN ?_;intro K hC hK|refine zM ?_;try clear hK hC K|refine zC ?_ ?_<;>intro hb|refine zK ?_;intro Jo JU JC AH AJ AG)<;>(try clear fa))
 refine Ab X.length (fun k σ=>σ=⟨900,[(1,AN false to),(2, .ref 0 0 0 0),(4, .ref 1 0 0 0),(5, .ref 2 0 0 0),(6,I k)],[(0, .arr 0 2 [Cb false ⟨X,ms⟩]),(1, .arr 0 2 [.agg [Bw,Bw]]),(2, .arr 0 2 [.agg [.rsl 3 0 0 X.length,Bw]]),(3, .arr 0 1 ((x5 X to k).map I))]⟩) [(0,0),(16,1),(112,2),(80,3)] [(0,0),(1,1),(2,2),(3,3)] 0 [1,2,4,5,6] 900 zf zf (by (have fa:=(And.intro @x5.eq_1 @x5.eq_2);exact zV)) ?_;rintro k σ' hk rfl J hcJ hJ;by_cases hlt:k<X.length
 ·obtain ⟨y,hy⟩:∃y,to[k]'(by omega)=y:=⟨_,rfl⟩;obtain ⟨x,hx⟩:∃x,X[k]=x:=⟨_,rfl⟩;have hyr:=hr y (by rw [←hy];exact List.getElem_mem _);have hs:x5 X to (k+1)=(x5 X to k).set y.toNat x:=by
   rw [x5,List.getD_eq_getElem?_getD,List.getElem?_eq_getElem (by omega),hy,List.getD_eq_getElem?_getD,List.getElem?_eq_getElem hlt,hx];rfl
  have hn:=l4 X to k;obtain ⟨Z,hZ⟩:∃Z,x5 X to k=Z:=⟨_,rfl⟩;rw [hZ] at hs hn ⊢;have hset:(Z.map I).set y.toNat (I x)=(Z.set y.toNat x).map I:=(List.map_set ..).symm;(have fa:=(And.intro hy (And.intro hx hset));(repeat' first|refine zQ ?_|refine zN ?_;intro K hC hK|refine zM ?_;try clear hK hC K|refine zC ?_ ?_<;>intro hb|refine zK ?_;intro Jo JU JC AH AJ AG)<;>(try clear fa))
  exact hJ _ hlt (by (have fa:=(And.intro hs hset);exact zV))
 ·obtain rfl:k=X.length:=by omega
  have hn:=l4 X to X.length;obtain ⟨Z,hZ⟩:∃Z,x5 X to X.length=Z:=⟨_,rfl⟩;rw [hZ] at hn ⊢;(repeat' first|refine zQ ?_|refine zN ?_;intro K hC hK|refine zM ?_;try clear hK hC K|refine zC ?_ ?_<;>intro hb|refine zK ?_;intro Jo JU JC AH AJ AG)
  refine A8 (Jf 2 0 2 500 0 3 1 (by rfl) (by rfl) (by rfl)) (α:=Nat×Nat) (fun a=>[(1,AN false to),(2, .ref 0 0 0 0),(4, .ref 1 0 0 0),(5, .ref 2 0 0 0),(7,I a.1)])
   (fun a=>[(0, .arr 0 2 [Cb false ⟨X,ms⟩]),(1, .arr 0 2 [.agg [Bw,Bw]]),(2, .arr 0 2 [.agg [.rsl 3 0 0 X.length, .rsl 4 a.2 0 a.1]]),(3, .arr 0 1 (Z.map I)),(4, .arr a.2 3 ((tnM to (ms.take a.1)).map AZ))])
   (fun a=>ms.length-a.1) (fun a=>a.1≤ms.length) [(0,0),(1,1),(2,2),(3,3),(500,4)] [(0,0),(1,1),(2,2),(3,3),(4,4)] 0 [1,2,4,5,7] 1900 zg zg (0,0) (by simp) (by (have fa:=(And.intro @I1.eq_1 (And.intro (And.intro @Ci.eq_1 @Ci.eq_2) (And.intro @tnM.eq_1 (And.intro @List.take_zero.{0} @List.map_nil.{0,0}))));exact CZ)) ?_
  rintro ⟨i,g⟩ k1 J2 hcJ2 hJ2;dsimp only at k1 hJ2 ⊢;by_cases hi:i<ms.length
  ·obtain ⟨m,hmi⟩:∃m,ms[i]=m:=⟨_,rfl⟩;have hgm:=hg m (by rw [←hmi];exact List.getElem_mem hi);have hs:=AAL (to:=to) hi;have hn2:=y9 to ms k1;rw [hmi] at hs;obtain ⟨O,hO⟩:∃O,tnM to (ms.take i)=O:=⟨_,rfl⟩;rw [hO] at hs hn2 ⊢;have hT:List.take i O=O:=List.take_of_length_le (by omega);have hT2:i≤O.length:=by omega
   obtain ⟨w,q,o⟩:=m;dsimp only at hgm;obtain ⟨y,hy⟩:∃y,to[q.toNat]'(by omega)=y:=⟨_,rfl⟩;have e1:toP to q=y:=by unfold toP;rw [List.getD_eq_getElem?_getD,List.getElem?_eq_getElem (by omega),hy];rfl
   by_cases hw:w=1
   ·subst hw;obtain ⟨v,hv⟩:∃v,to[(q+2).toNat]'(by have:=hgm.2.2 rfl;omega)=v:=⟨_,rfl⟩;have h3:=hgm.2.2 rfl;have e2:toP to (q+2)=v:=by unfold toP;rw [List.getD_eq_getElem?_getD,List.getElem?_eq_getElem (by omega),hv];rfl
    obtain ⟨u,hu⟩:∃u,(if v<y then v else y)=u:=⟨_,rfl⟩;have e4:min y v=u:=by rw [←hu];split<;>omega
    have e3:J5 (toP to) ⟨1,q,o⟩=⟨1,u,o⟩:=by unfold J5;rw [if_pos rfl];dsimp only;rw [e1,e2,e4]
    rw [e3] at hs;have hE:(O++[(⟨1,u,o⟩:Gp)]).map AZ=O.map AZ++[.agg [I 1,I u,B o]]:=by simp [AZ]
    (have fa:=(And.intro hmi (And.intro hy (And.intro hv (And.intro hT (And.intro hT2 hu)))));(repeat' first|refine zQ ?_|refine zN ?_;intro K hC hK|refine zM ?_;try clear hK hC K|refine zC ?_ ?_<;>intro hb|refine zK ?_;intro Jo JU JC AH AJ AG)<;>(try clear fa))
    refine hJ2 _ (i+1,_) (by dsimp only;omega) (by dsimp only;omega) (by (have fa:=(And.intro hs (And.intro hT (And.intro hE hu)));exact CZ))
   ·have e3:J5 (toP to) ⟨w,q,o⟩=⟨w,y,o⟩:=by unfold J5;dsimp only;rw [if_neg hw,e1]
    rw [e3] at hs;have hE:(O++[(⟨w,y,o⟩:Gp)]).map AZ=O.map AZ++[.agg [I w,I y,B o]]:=by simp [AZ]
    (have fa:=(And.intro hmi (And.intro hy (And.intro hT hT2)));(repeat' first|refine zQ ?_|refine zN ?_;intro K hC hK|refine zM ?_;try clear hK hC K|refine zC ?_ ?_<;>intro hb|refine zK ?_;intro Jo JU JC AH AJ AG)<;>(try clear fa))
    refine hJ2 _ (i+1,_) (by dsimp only;omega) (by dsimp only;omega) (by (have fa:=(And.intro hs (And.intro hT hE));exact CZ))
  ·obtain rfl:i=ms.length:=by omega
   have hT:ms.take ms.length=ms:=List.take_length;have hn2:=y9 to ms k1;rw [hT] at hn2 ⊢;obtain ⟨O,hO⟩:∃O,tnM to ms=O:=⟨_,rfl⟩;rw [hO] at hn2 ⊢;have hT1:List.take ms.length O=O:=List.take_of_length_le (by omega);have hT2:ms.length≤O.length:=by omega
   have hT3:List.take X.length Z=Z:=List.take_of_length_le (by omega);have hT4:X.length≤Z.length:=by omega
   (repeat' first|refine zQ ?_|refine zN ?_;intro K hC hK|refine zM ?_;try clear hK hC K|refine zC ?_ ?_<;>intro hb|refine zK ?_;intro Jo JU JC AH AJ AG)
   refine Aa [] ?_ ?_<;>(have fa:=(And.intro hT1 (And.intro hT2 (And.intro hT3 hT4)));first|exact AK|(refine zE ?_;try clear fa));rw [hZ,hO];rfl
def C4 (s:AL) (mi:Bool) (a b:Int) (k:Int):Int:=if mi=true then A3 s k else A1 s k a b
def x6 (p:Int→Int) (n:Nat):List Int:=(List.range n).map fun i:Nat=>p i
theorem wR (p:Int→Int) (n:Nat):(x6 p n).length=n:=by unfold x6;simp
theorem xA (p:Int→Int) {n k:Nat} (hk:k<n):(x6 p n)[k]'(by rw [wR];exact hk)=p k:=by unfold x6;simp
theorem AAP (p:Int→Int) {n k:Nat} (hk:k<n):(x6 p n).take (k+1)=(x6 p n).take k++[p k]:=by
 rw [List.take_succ_eq_append_getElem (by rw [wR];exact hk),xA p hk]
theorem yU (p:Int→Int) {n:Nat} {z:Int} (h0:0≤z) (h1:z<(n:Int)):toP (x6 p n) z=p z:=by
 unfold toP;rw [List.getD_eq_getElem?_getD,List.getElem?_eq_getElem (by rw [wR];omega),xA p (by omega),Int.toNat_of_nonneg h0];rfl
theorem zR {p:Int→Int} {n:Nat} {l:List Int} (h:D8 n l):o8 l (x6 p n)=l.map p :=
 List.map_congr_left fun z hz=>yU p (h z hz).1 (h z hz).2
theorem AA5 {rn:Int→Bool} {n:Nat} {p:Int→Int} (hr:C7 n rn) {ms:List Gp} (h:∀g∈ms,wU n rn g):tnM (x6 p n) ms=ms.map (J5 p) :=
 List.map_congr_left fun g hg=>by
  obtain ⟨h0,h1,h2⟩:=h g hg;unfold J5;rw [yU p h0 h1];by_cases hw:g.wh=1
  ·have:=hr _ (h2 hw);rw [yU p (z:=g.kd+2) (by omega) (by omega)]
  ·rw [if_neg hw,if_neg hw]
theorem y4 {rn:Int→Bool} {n:Nat} {p:Int→Int} (T:yJ rn n p) {X:List Int} (hX:X.length=n):∀k,k≤n→∀i:Nat,i<k→(x5 X (x6 p n) k).getD (p i).toNat 0=X.getD i 0
 | 0,_,i,h=>by omega
 | k+1,hk,i,h=>by
  have rk:=T.rg k (by omega) (by omega);have ri:=T.rg i (by omega) (by omega);have e:(x6 p n).getD k 0=p k:=by
   rw [List.getD_eq_getElem?_getD,List.getElem?_eq_getElem (by rw [wR];omega),xA p (by omega)];rfl
  have hl:=l4 X (x6 p n) k;rw [x5,e];by_cases hik:i=k
  ·subst hik;rw [List.getD_eq_getElem?_getD,List.getElem?_set_self (by omega)];rfl
  ·have hne:(p k).toNat≠(p i).toNat:=fun e2=>hik (by
    have:=T.inj (a:=i) (b:=k) (by omega) (by omega) (by omega) (by omega) (by omega)
    omega)
   rw [List.getD_eq_getElem?_getD,List.getElem?_set_ne hne,←List.getD_eq_getElem?_getD];exact y4 T hX k (by omega) i (by omega)
theorem AA4 {rn:Int→Bool} {n:Nat} {p:Int→Int} (T:yJ rn n p) {X:List Int} (hX:X.length=n):xO n p X (x5 X (x6 p n) n) :=
 ⟨hX,by rw [l4];exact hX,y4 T hX n (Nat.le_refl _)⟩
theorem AAO {s:AL} (e:AP s=0) {n:Nat} (hn:(n:Int)=AY s) (mi:Bool) (a b:Int):yJ (AT s) n (C4 s mi a b):=by
 cases mi with
 | true =>
  have:C4 s true a b=A3 s:=by funext k;unfold C4;rw [if_pos rfl]
  rw [this];exact yL e hn
 | false =>
  have:C4 s false a b=fun k=>A1 s k a b:=by funext k;unfold C4;rw [if_neg (by decide)]
  rw [this];exact yI e hn a b
def P3 (s:AL) (mi:Bool) (f:Fm):Bool:= !((f.wh==4&&mi)&& !wY s)
theorem ABO {s:AL} (e:AP s=0) {n:Nat} (hn:(n:Int)=AY s) {mi:Bool} {a b:Int} (ha:0≤a∧a<3) (hb:0≤b∧b<3) {l:List Fm} (hl:∀f∈l,Az s f=0∧P3 s mi f=true):FsW s n (C4 s mi a b) l (l.map (yK (C4 s mi a b))) where
 ln:=by simp
 w i h1 h2:=by
  rw [List.getElem_map];exact (zZ (AAO e hn mi a b) hn (hl _ (List.getElem_mem h1)).1).2
 k4 f hf h4:=by
  cases mi with
  | true =>
   have:C4 s true a b=A3 s:=by funext k;unfold C4;rw [if_pos rfl]
   rw [this];have h5:=(hl f hf).2;unfold P3 at h5;rw [h4] at h5;exact yM e hn (AAs (by simpa using h5))
  | false =>
   have:C4 s false a b=fun k=>A1 s k a b:=by funext k;unfold C4;rw [if_neg (by decide)]
   rw [this];exact AAW e hn ha hb
 k5 f hf h5:=by
  have nw:=(Nf (hl f hf).1).nw;unfold Cs at nw;have h9:s.su=[9,9,9]:=by
   by_cases h:s.su=[9,9,9]
   ·exact h
   ·exact absurd (.inr (.inr (.inr (.inr (.inl ⟨h5, .inl h⟩))))) nw
  cases mi with
  | true =>
   have:C4 s true a b=A3 s:=by funext k;unfold C4;rw [if_pos rfl]
   rw [this];exact yO e h9
  | false =>
   have:C4 s false a b=fun k=>A1 s k a b:=by funext k;unfold C4;rw [if_neg (by decide)]
   rw [this];exact AAb e h9 ha hb
theorem ABK {s:AL} (e:AP s=0) {n:Nat} (hn:(n:Int)=AY s) {mi:Bool} {a b:Int} {l:List Fm} (hl:∀f∈l,Az s f=0) (h0:0<l.length) (h8:l.length≤8):A6 s (l.map (yK (C4 s mi a b)))=0 :=
 xF e (by simpa using h0) (by simpa using h8) fun f hf=>by
  obtain ⟨x,hx,rfl⟩:=List.mem_map.1 hf;exact (zZ (AAO e hn mi a b) hn (hl x hx)).1
theorem AAg (p:Int→Int) (f:Fm):(yK p f).ks.length=f.ks.length:=by
 unfold yK;dsimp only;rw [(wQ _).length_eq,List.length_map]
theorem AAK {s:AL} {n:Nat} {p:Int→Int} (T:yJ (AT s) n p) {l m:List Fm} (hl:A6 s l=0) (hm:A6 s m=0) (qFW:FsW s n p l m) {h:Hd} {b:List Int} (hh:Ag s h=0) (B:xO n p h.bag b):D8 n (Hm s l h)∧xQ (o8 (Hm s l h) (x6 p n))=Hm s m ⟨b,h.me.map (J5 p)⟩:=by
 obtain ⟨h1,h2,h3⟩:=AAv T hl hm qFW hh B;refine ⟨h2,?_⟩;rw [zR h2];have hp:=wQ ((Hm s l h).map p);have hr:GR (Hm s l h):=by
  unfold Hm DC;split
  ·exact (zA _).2
  ·exact List.Pairwise.nil
 refine MU (zP (yW _) (hp.nodup_iff.2 ?_)) h1 fun z=> ?_
 ·refine List.pairwise_map.2 (List.Pairwise.imp_of_mem (R:=(· ≠·)) (fun {a b} ha hb hab e=>hab ?_) (Sn hr));exact T.inj (h2 a ha).1 (h2 a ha).2 (h2 b hb).1 (h2 b hb).2 e
 ·rw [hp.mem_iff,h3,List.mem_map];exact ⟨fun ⟨k,hk,e⟩=>⟨k,hk,e.symm⟩,fun ⟨k,hk,e⟩=>⟨k,hk,e.symm⟩⟩
end Go.Proofs.YthblfhgofopcaaaGreat
