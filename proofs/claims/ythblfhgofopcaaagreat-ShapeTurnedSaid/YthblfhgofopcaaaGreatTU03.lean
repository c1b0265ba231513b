/-
  Parts of the proof: SplX, OrdV, ConS, JobB, JobC.
-/
import Derived.Test.YthblfhgofopcaaaGreatTU01
import Derived.Test.YthblfhgofopcaaaGreatTU02
import Derived.Test.YthblfhgofopcaaaGreatSH13
import Derived.Test.YthblfhgofopcaaaGreatSH14
import Derived.Test.YthblfhgofopcaaaGreatSH21
set_option linter.all false
namespace Go.Proofs.YthblfhgofopcaaaGreat
open Go.RowKit
set_option maxRecDepth 100000
structure Sx where
 left:List Int
 pd:Bool
 so:List Gp
 junk:List Gp
 gs:Nat
 go:Nat
def AA:AV:= .clo 158 [.ref 1 0 0 0, .ref 2 0 0 0, .ref 3 0 0 0, .ref 4 0 0 0, .ref 5 0 0 0, .ref 6 0 0 0, .ref 0 0 0 0]
def AF:AV:= .clo 157 [.ref 0 0 0 0, .ref 1 0 0 0, .ref 4 0 0 0]
def Ae:AV:= .clo 160 [.ref 5 0 0 0, .ref 10 0 0 0]
theorem ME {X:List Int} {ks:List Int} (hk:D8 X.length ks):A5 (Ah X ks) ks=X:=by
 refine List.ext_getElem (by rw [Bp,Bn]) fun i h1 h2=> ?_
 have h3:=CY ks (Ah X ks) (by rw [Bn];exact hk) i;have h4:=BF ks X hk i;rw [h4] at h3;have e1:(A5 (Ah X ks) ks).getD i 0=(A5 (Ah X ks) ks)[i]:=by simp [List.getD_eq_getElem?_getD,h1]
 have e2:X.getD i 0=X[i]:=by simp [List.getD_eq_getElem?_getD,h2]
 rw [e1,e2] at h3;omega
set_option maxHeartbeats 2000000
theorem OK (g:Nat) (l:List Gp) (h0:0<l.length) (h1:l.length≤1000000) (hc:Cl l):D3 Tryz.prog 177 [.rsl 0 g 0 l.length, .clo 178 []] [(0, .arr g 3 (l.map AZ))] (.v (.tuple #[])) [(0, .arr g 3 ((CX l).map AZ))]:=by
 refine EE (VW g l h0 h1) ?_;rintro x hl ⟨rfl,l',hp,hs,rfl⟩;have:l' =CX l:=Rf hp hs fun g hg=>hc g hg
 rw [this];exact ⟨rfl,rfl⟩
theorem Rk (l:List Gp) (h0:0<l.length) (h1:l.length≤1000000) (hc:Cl l):Je Tryz.prog 159 [AX false l] (.rsl 0 1 0 l.length) [(0, .arr 1 3 ((CX l).map AZ))]:=by
 have CO:=GU l h1;have CS:=OK 1 l h0 h1 hc;refine zb Tryz.ntmps159 ?_;let tb:=UA;let lv:=Q4;(repeat' first|refine zO CO ?_|refine zJ (tg [32]) CS ?_|refine zQ ?_|refine zN ?_;intro K hC hK|refine zM ?_;try clear hK hC K|refine zC ?_ ?_<;>intro hb|refine zK ?_;intro Jo JU JC AH AJ AG)
 refine Aa [(32,0)] ?_ ?_<;>(first|exact AK|refine zE ?_)
theorem Jw (l:List Gp) (h0:0<l.length) (h1:l.length≤1000000) (hc:Cl l):AM Tryz.prog 159 [AX false l] (AX true (CX l)):=by
 have CO:=GU l h1;have CS:=OK 1 l h0 h1 hc;have hl:(CX l).length=l.length:=(BV l).length_eq;have hT:(CX l).take l.length=CX l:=by rw [←hl,List.take_length]
 have hL:l.length≤(CX l).length:=by omega
 refine zb Tryz.ntmps159 ?_;let tb:=UA;let lv:=Q4;(repeat' first|refine zO CO ?_|refine zJ (tg [32]) CS ?_|refine zQ ?_|refine zN ?_;intro K hC hK|refine zM ?_;try clear hK hC K|refine zC ?_ ?_<;>intro hb|refine zK ?_;intro Jo JU JC AH AJ AG)
 refine Aa [] ?_ ?_<;>(have fa:=(And.intro hT hL);first|exact AK|(refine zE ?_;try clear fa))
end Go.Proofs.YthblfhgofopcaaaGreat

namespace Go.Proofs.YthblfhgofopcaaaGreat
def Au:List (List Int):=[[0,1,2],[0,2,1],[1,0,2],[1,2,0],[2,0,1],[2,1,0]]
section
variable (su rk:Nat→Int)
def eD (w:List Int) (k:Nat):Bool:=decide (rk k % 3=w.getD (su k).toNat 0)
def T6 (bag w:List Int) (k:Nat):Bool:=decide (bag.getD k 0≤1)&&(!(decide (bag.getD k 0=1)&&decide (0≤su k)) || eD su rk w k)
def K5 (bag w:List Int):Bool:=(List.range bag.length).all (T6 su rk bag w)
def Gm (bag:List Int):List (List Gp):=if Au.any (K5 su rk bag)=true then [Hp bag] else []
end
section
variable {su rk:Nat→Int}
theorem Gk {bag w:List Int}:K5 su rk bag w=true↔∀k,k<bag.length→bag.getD k 0≤1∧(bag.getD k 0=1→0≤su k→rk k % 3=w.getD (su k).toNat 0):=by
 unfold K5 T6 eD;simp only [List.all_eq_true,List.mem_range,Bool.and_eq_true,Bool.or_eq_true,decide_eq_true_eq,Bool.not_eq_true',Bool.and_eq_false_iff,decide_eq_false_iff_not];constructor
 ·intro h k hk;refine ⟨(h k hk).1,fun h1 h2=> ?_⟩;rcases (h k hk).2 with (h3|h3)|h3
  ·exact absurd h1 h3
  ·exact absurd h2 h3
  ·exact h3
 ·intro h k hk;refine ⟨(h k hk).1,?_⟩;by_cases h1:bag.getD k 0=1
  ·by_cases h2:0≤su k
   ·exact .inr ((h k hk).2 h1 h2)
   ·exact .inl (.inr h2)
  ·exact .inl (.inl h1)
end
def KZ (ks:List Int):List Gp:=ks.map (gp 5)
section
variable (rn:Int→Bool) (f:Nat) (nk:List Int→List Int)
def HK (bag w:List Int):List (List Gp):=match BX bag (nk w) with
 | none=>[]
 | some r=>(Eg rn f r).map (· ++KZ (nk w))
def Ln (bag:List Int):List (List Gp):=Au.flatMap (HK rn f nk bag)
def H9 (bag:List Int) (out:List (List Gp)) (w:List Int):List (List Gp):=match BX bag (nk w) with
 | none=>out
 | some r=>(Eg rn f r).foldl (fun out l=>E0 out ((nk w).foldl (fun x z=>BN x (gp 5 z)) l)) out
def Iv (bag:List Int):List (List Gp):=Au.foldl (H9 rn f nk bag) []
end
theorem ZM {l:List Gp} {g:Gp} (h:∀x∈l,C6 x g≤0):Lh l g l.length=l.length:=by
 cases hl:l.length with
 | zero=>rfl
 | succ n =>
  rw [Jz l g (show n<l.length by omega),if_neg];have:=h l[n] (List.getElem_mem _);have:=Gt l[n] g;omega
theorem Un {l:List Gp} {g:Gp} (h:∀x∈l,C6 x g≤0):BN l g=l++[g]:=by
 unfold BN;rw [ZM h,List.take_length,List.drop_length]
theorem Qe:∀{ks:List Int} {l:List Gp},GR ks→(∀x∈l,x.wh≤4∨(x.wh=5∧∀z∈ks,x.kd<z))→ks.foldl (fun x z=>BN x (gp 5 z)) l=l++KZ ks
 | [],l,_,_=>by simp [KZ]
 | k::ks,l,hr,h=>by
  have hr' :=List.pairwise_cons.1 hr;rw [List.foldl_cons,Un (fun x hx=> ?_),Qe hr'.2 (fun x hx=> ?_)]
  ·simp [KZ]
  ·rcases List.mem_append.1 hx with hx|hx
   ·rcases h x hx with h1|⟨h1,h2⟩
    ·exact .inl h1
    ·exact .inr ⟨h1,fun z hz=>h2 z (by simp [hz])⟩
   ·simp at hx;subst hx;exact .inr ⟨rfl,fun z hz=>hr'.1 z hz⟩
  ·have hc:=A2 x (gp 5 k);rcases h x hx with h1|⟨h1,h2⟩
   ·simp at hc;omega
   ·have:=h2 k (by simp);simp at hc;omega
section
variable {n:Nat} {rn:Int→Bool} {f:Nat} {nk:List Int→List Int}
theorem dM {bag:List Int} {x:List Gp} (h:Hu n rn bag x):∀g∈x,g.wh≤4:=fun g hg=>by
 rcases h.me g hg with h|h
 ·rcases h.2.2.2 with h|h<;>omega
 ·have:=h.2.2.2;omega
theorem Xx (ks:List Int):Cl (KZ ks):=fun g hg=>by
 unfold KZ at hg;rw [List.mem_map] at hg;obtain ⟨z,_,rfl⟩:=hg;rfl
theorem gP (ks:List Int):∀g∈KZ ks,g.wh=5:=fun g hg=>by
 unfold KZ at hg;rw [List.mem_map] at hg;obtain ⟨z,_,rfl⟩:=hg;rfl
theorem YC {l m:List Gp} {a b:List Int} (hl:∀g∈l,g.wh≤4) (hm:∀g∈m,g.wh≤4) (h:l++KZ a=m++KZ b):l=m∧a=b:=by
 have e:=congrArg (List.filter fun g=>decide (g.wh≤4)) h;have f1:∀(l:List Gp) (a:List Int),(∀g∈l,g.wh≤4)→(l++KZ a).filter (fun g=>decide (g.wh≤4))=l:=fun l a hl=>by
  rw [List.filter_append,List.filter_eq_self.2 (fun g hg=>by simpa using hl g hg),List.filter_eq_nil_iff.2 (fun g hg=>by have:=gP a g hg;simp;omega),List.append_nil]
 rw [f1 l a hl,f1 m b hm] at e;subst e;refine ⟨rfl,?_⟩;have e2:=List.append_cancel_left h;have e3:=congrArg (List.map Gp.kd) e2;simpa [KZ,List.map_map,Function.comp_def] using e3
theorem YS (hr:C7 n rn) {bag:List Int} (hb:Bg n bag) (hs:bag.sum<(f:Int)) (hn:∀w∈Au,GR (nk w)∧D8 n (nk w)) (hi:∀a∈Au,∀b∈Au,nk a=nk b→a=b)
  {S:List (List Gp)} (hp:S.Perm (Ln rn f nk bag)) (ho:S.Pairwise fun a b=>BL a b≤0):S=Iv rn f nk bag∧SL (Iv rn f nk bag):=by
 have less:∀w∈Au,∀r,BX bag (nk w)=some r→Bg n r∧r.sum<(f:Int):=fun w hw r h=>by
  rcases C5 (nk w) bag (by rw [hb.1];exact (hn w hw).2) hb.2 with ⟨h1,h2⟩|⟨h1,_⟩
  ·rw [h] at h1;injection h1 with h1;subst h1
   exact ⟨hb.dec (hn w hw).2 h2,by rw [Ck _ _ (by rw [hb.1];exact (hn w hw).2)];omega⟩
  ·rw [h] at h1;cases h1
 have spl:∀w∈Au,∀r,BX bag (nk w)=some r→SL (Eg rn f r)∧∀x,x∈Eg rn f r↔Hu n rn r x:=fun w hw r h=>Fb hr (less w hw r h).1 (less w hw r h).2
 have memW:∀w∈Au,∀x,x∈HK rn f nk bag w→∃l,Cl l∧(∀g∈l,g.wh≤4)∧x=l++KZ (nk w):=fun w hw x hx=>by
  unfold HK at hx;cases h:BX bag (nk w) with
  | none=>rw [h] at hx;cases hx
  | some r =>
   rw [h] at hx;obtain ⟨l,hl,rfl⟩:=List.mem_map.1 hx;have:=((spl w hw r h).2 l).1 hl;exact ⟨l,this.cl,dM this,rfl⟩
 have clx:∀x,x∈Ln rn f nk bag→Cl x:=fun x hx=>by
  unfold Ln at hx;obtain ⟨w,hw,hx⟩:=List.mem_flatMap.1 hx;obtain ⟨l,h1,_,rfl⟩:=memW w hw x hx;intro g hg;rcases List.mem_append.1 hg with h|h
  ·exact h1 g h
  ·exact Xx _ g h
 have step:∀w∈Au,∀out,SL out→(∀x∈out,Cl x)→SL (H9 rn f nk bag out w)∧(∀x∈H9 rn f nk bag out w,Cl x)∧∀x,x∈H9 rn f nk bag out w↔x∈out∨x∈HK rn f nk bag w:=fun w hw out h1 h2=>by
  unfold H9 HK;cases h:BX bag (nk w) with
  | none=>exact ⟨h1,h2,fun x=>by simp⟩
  | some r =>
   simp only;obtain ⟨_,j2⟩:=spl w hw r h;have go:∀(ls out:List (List Gp)),(∀l∈ls,Cl l∧∀g∈l,g.wh≤4)→SL out→(∀x∈out,Cl x)→SL (ls.foldl (fun out l=>E0 out ((nk w).foldl (fun x z=>BN x (gp 5 z)) l)) out)∧(∀x∈ls.foldl (fun out l=>E0 out ((nk w).foldl (fun x z=>BN x (gp 5 z)) l)) out,Cl x)∧
     ∀x,x∈ls.foldl (fun out l=>E0 out ((nk w).foldl (fun x z=>BN x (gp 5 z)) l)) out↔x∈out∨x∈ls.map (· ++KZ (nk w)):=by
    intro ls;induction ls with
    | nil=>intro out _ h1 h2;exact ⟨h1,h2,fun x=>by simp⟩
    | cons l ls ih =>
     intro out hls h1 h2;rw [List.foldl_cons];have hl:=hls l (by simp);rw [Qe (hn w hw).1 fun x hx=> .inl (hl.2 x hx)];have hcl:Cl (l++KZ (nk w)):=fun g hg=>by
      rcases List.mem_append.1 hg with h|h
      ·exact hl.1 g h
      ·exact Xx _ g h
     obtain ⟨a1,a2⟩:=T4 h1 h2 hcl;obtain ⟨b1,b2,b3⟩:=ih (E0 out (l++KZ (nk w))) (fun l hl=>hls l (by simp [hl])) a1 fun x hx=>by
      rcases (a2 x).1 hx with rfl|hx
      ·exact hcl
      ·exact h2 x hx
     refine ⟨b1,b2,fun x=> ?_⟩;rw [b3,a2,List.map_cons,List.mem_cons];constructor
     ·rintro ((h|h)|h)<;>simp [h]
     ·rintro (h|h|h)<;>simp [h]
   exact go (Eg rn f r) out (fun l hl=>⟨((j2 l).1 hl).cl,dM ((j2 l).1 hl)⟩) h1 h2
 have all:∀(ws:List (List Int)) (out:List (List Gp)),(∀w∈ws,w∈Au)→SL out→(∀x∈out,Cl x)→SL (ws.foldl (H9 rn f nk bag) out)∧∀x,x∈ws.foldl (H9 rn f nk bag) out↔x∈out∨x∈ws.flatMap (HK rn f nk bag):=by
  intro ws;induction ws with
  | nil=>intro out _ h1 _;exact ⟨h1,fun x=>by simp⟩
  | cons w ws ih =>
   intro out hws h1 h2;rw [List.foldl_cons];obtain ⟨a1,a2,a3⟩:=step w (hws w (by simp)) out h1 h2;obtain ⟨b1,b2⟩:=ih _ (fun w hw=>hws w (by simp [hw])) a1 a2;refine ⟨b1,fun x=> ?_⟩;rw [b2,a3,List.flatMap_cons,List.mem_append,or_assoc]
 obtain ⟨r1,r2⟩:=all Au [] (fun w h=>h) List.Pairwise.nil (fun x h=>by cases h);have r2:∀x,x∈Iv rn f nk bag↔x∈Ln rn f nk bag:=fun x=>by
  have:=r2 x;unfold Iv Ln;rw [this];simp
 have nd:∀ws:List (List Int),ws.Nodup→(∀w∈ws,w∈Au)→(ws.flatMap (HK rn f nk bag)).Nodup:=by
  intro ws;induction ws with
  | nil=>intro _ _;simp
  | cons w ws ih =>
   intro hnd hws;have hnd' :=List.nodup_cons.1 hnd;rw [List.flatMap_cons,List.nodup_append];refine ⟨?_,ih hnd'.2 (fun w hw=>hws w (by simp [hw])),fun x hx y hy hxy=> ?_⟩
   ·unfold HK;cases h:BX bag (nk w) with
    | none=>simp
    | some r =>
     simp only;have:=(spl w (hws w (by simp)) r h).1;refine List.pairwise_map.2 (this.imp fun {a b} hab he=> ?_);have:=List.append_cancel_right he;subst this;rw [Ez] at hab;omega
   ·subst hxy;obtain ⟨v,hv,hy⟩:=List.mem_flatMap.1 hy;obtain ⟨l,_,l2,e1⟩:=memW w (hws w (by simp)) x hx;obtain ⟨m,_,m2,e2⟩:=memW v (hws v (by simp [hv])) x hy;have:=(YC l2 m2 (e1.symm.trans e2)).2;have:=hi w (hws w (by simp)) v (hws v (by simp [hv])) this;subst this;exact hnd'.1 hv
 have hnP:(Ln rn f nk bag).Nodup:=nd Au (by decide) fun w h=>h
 have hnS:S.Nodup:=hp.symm.nodup hnP;refine ⟨PF ?_ r1 fun x=>(hp.mem_iff).trans (r2 x).symm,r1⟩;exact (ho.and hnS).imp_of_mem fun {a b} ha hb k=>by
  rcases Int.lt_or_eq_of_le k.1 with h|h
  ·exact h
  ·exact absurd (MD h (clx a (hp.mem_iff.1 ha)) (clx b (hp.mem_iff.1 hb))) k.2
theorem X6 (hr:C7 n rn) {bag:List Int} (hb:Bg n bag) (hs:bag.sum<(f:Int)) (hn:∀w∈Au,GR (nk w)∧D8 n (nk w)) (hi:∀a∈Au,∀b∈Au,nk a=nk b→a=b)
  {S:List (List Gp)} (hp:S.Perm (Ln rn f nk bag)) (ho:S.Pairwise fun a b=>BL a b≤0):S=Iv rn f nk bag:=(YS hr hb hs hn hi hp ho).1
end
end Go.Proofs.YthblfhgofopcaaaGreat

namespace Go.Proofs.YthblfhgofopcaaaGreat
open Go.RowKit
set_option maxRecDepth 100000
set_option maxHeartbeats 2000000
theorem QT (zs:List Int) (x:Int) (hl:zs.length≤1000000) (hs:zs.Pairwise (· ≤·)):AM Tryz.prog 171 [AN false zs,I x] (.tup [I (zs.countP (· <x):Nat),B (zs.contains x)]):=JN ⟨_,_,Tryz.func171,rfl,rfl⟩ fun c vals hx=>by
 obtain ⟨v,v',rfl,k1,k2⟩:=IJ hx;have:=As k2;subst this;obtain ⟨A,n,cp,rfl,rfl,h1,h2,h3⟩:=WO k1;rw [List.length_map] at *;cases hz:zs with
 | nil =>
  subst hz;refine (Tryz.slices_BinarySearch_int_empty A cp x c.w).mono ?_;rintro e w' ⟨rfl,rfl⟩;exact ⟨by simp,Aw.refl _⟩
 | cons z l =>
  obtain ⟨b,o,rfl,_⟩:=h3 0 (I z) (by rw [hz];rfl);rw [←hz];have hc:∀j,j<zs.length→c.w.cell? ⟨b,o+j,none⟩=some (.int .i64 (zs.getD j 0)):=fun j hj=>by
   obtain ⟨b',o',e,_,hcell⟩:=h3 j (I zs[j]) (by rw [List.getElem?_map,List.getElem?_eq_getElem hj];rfl);injection e with e;injection e with e1 e2
   subst e1 e2;obtain ⟨v,hv,hr⟩:=hcell 0 (I zs[j]) rfl;cases hr;have:zs.getD j 0=zs[j]:=by simp [hj]
   rw [this];simpa using hv
  have K:=Tryz.slices_BinarySearch_int b o zs.length cp zs x c.w (Nat.le_refl _) (by omega) hc (by rw [List.take_length];exact hs);rw [List.take_length] at K;refine K.mono ?_;rintro e w' ⟨rfl,q,rfl⟩;exact ⟨rfl,(Aw.refl _).drewN _⟩
theorem Tm:∀{Y:List Int},(∀i,i<Y.length→Y.getD i 0≤0)→Y.sum≤0
 | [],_=>by simp
 | y::Y,h=>by
  have h0:=h 0 (by simp);have:=Tm (Y:=Y) fun i hi=>by simpa using h (i+1) (by simpa using hi)
  simp at h0 ⊢;omega
theorem R1 {bag:List Int}:∀{n:Nat},ET bag n=[]→∀k,k<n→bag.getD k 0≠1∧bag.getD k 0≠2
 | 0,_,k,h=>absurd h (Nat.not_lt_zero k)
 | n+1,h,k,hk=>by
  rw [ET,List.append_eq_nil_iff] at h;by_cases e:k=n
  ·subst e;have:=h.2;refine ⟨fun h1=> ?_,fun h2=> ?_⟩
   ·rw [if_pos h1] at this;cases this
   ·rw [if_neg (by omega),if_pos h2] at this;cases this
  ·exact R1 h.1 k (by omega)
theorem NL (bag:List Int):∀n,(ET bag n).length≤n
 | 0=>by simp [ET]
 | n+1=>by
  have:=NL bag n;rw [ET,List.length_append];split
  ·simp;omega
  ·split<;>simp<;>omega
theorem Tq (bag:List Int):∀n,Cl (ET bag n)
 | 0=>fun g h=>by cases h
 | n+1=>fun g h=>by
  rw [ET] at h;rcases List.mem_append.1 h with h|h
  ·exact Tq bag n g h
  ·split at h
   ·simp at h;subst h;rfl
   ·split at h
    ·simp at h;subst h;rfl
    ·cases h
theorem cV (ks:List Int) (k:Int):ks.contains k=ks.any fun z=>z==k:=by
 rw [Bool.eq_iff_iff,List.contains_iff_mem,List.any_eq_true];constructor
 ·intro h;exact ⟨k,h,by simp⟩
 ·rintro ⟨z,h,e⟩;simp at e;subst e;exact h
set_option maxHeartbeats 2000000 in
theorem TT (s:AL) (f:Fm) (h:Hd) (hb:Sb h.bag) (hl:h.bag.length≤1000) (hfl:f.ks.length≤1000) (hr:f.ks.Pairwise (· ≤·)) (hs:0<h.bag.sum):AM Tryz.prog 135 [Ar s f h] (EG false (I9 h.bag f.ks)):=by
 refine Ba ?_;obtain ⟨bag,me⟩:=h;dsimp only at hb hl hs ⊢;refine zb Tryz.ntmps135 ?_;let tb:=cL;let lv:=YY;(have fa:= @Ar.eq_1;(repeat' first|refine zQ ?_|refine zN ?_;intro K hC hK|refine zM ?_;try clear hK hC K|refine zC ?_ ?_<;>intro hb|refine zK ?_;intro Jo JU JC AH AJ AG)<;>(try clear fa))
 refine A8 (BY 3 500 0 3 (by rfl) (by rfl)) (α:=Nat×Nat) (fun x=>[(1, .ref 1 0 0 0),(3, .rsl 0 x.2 0 (ET bag x.1).length),(10,AN false bag),(11,I bag.length),(12,I x.1)]) (fun x=>[(0, .arr x.2 3 ((ET bag x.1).map AZ)),(1, .arr 0 14 [Ar s f ⟨bag,me⟩])]) (fun x=>bag.length-x.1) (fun x=>x.1≤bag.length∧∀i,i<x.1→cR bag f.ks i=true) [(500,0),(0,1)] [(0,0),(1,1)] 0 [1,3,10,11,12] 900 zf zf (0,0) ⟨Nat.zero_le _,fun i h=>absurd h (Nat.not_lt_zero i)⟩ (by (have fa:=(And.intro @Dg.eq_1 (And.intro (And.intro @Ci.eq_1 @Ci.eq_2) (And.intro (And.intro @ET.eq_1 @ET.eq_2) @Ar.eq_1)));exact CZ)) ?_;rintro ⟨k,g⟩ ⟨hk,hgood⟩ J hcJ hJ;dsimp only at hk hgood hJ ⊢;have hln:=NL bag k;by_cases h:k<bag.length
 ·have hbk:=hb k;have hge:bag.getD k 0=bag[k]:=by simp [h]
  have CS:=QT f.ks k (by omega) hr;rw [cV] at CS;have hok:cR bag f.ks k=((TX f.ks k==decide (0<bag[k]))&&decide (bag[k]≤2)):=by unfold cR;rw [hge]
  have hsu:ET bag (k+1)=ET bag k++(if bag[k]=1 then [gp 5 k] else if bag[k]=2 then [gp 4 k] else []):=by rw [ET,hge]
  obtain ⟨a,ha⟩:∃a,TX f.ks k=a:=⟨_,rfl⟩;rw [ha] at hok;unfold TX at ha;rw [ha] at CS;obtain ⟨L,hL⟩:∃L,ET bag k=L:=⟨_,rfl⟩;rw [hL] at hln hsu ⊢;have hT:L.take L.length=L:=List.take_length;have h5:AV.agg [I 5,I k,B false]=AZ (gp 5 (k:Int)):=rfl;have h4:AV.agg [I 4,I k,B false]=AZ (gp 4 (k:Int)):=rfl;by_cases hbad:cR bag f.ks k=true
  ·rw [hbad] at hok;have hnext:∀i,i<k+1→cR bag f.ks i=true:=fun i h2=>by
    by_cases e:i=k
    ·subst e;exact hbad
    ·exact hgood i (by omega)
   have hc:bag[k]=0∨bag[k]=1∨bag[k]=2:=by simp at hok;omega
   rcases hc with e|e|e
   ·have:a=false:=by rw [e] at hok;simp at hok;exact hok
    subst this;simp only [e] at hsu;(have fa:=(And.intro e (And.intro @Ar.eq_1 @bne_self_eq_false.{0}));(repeat' first|refine zS CS ?_|refine zQ ?_|refine zN ?_;intro K hC hK|refine zM ?_;try clear hK hC K|refine zC ?_ ?_<;>intro hb|refine zK ?_;intro Jo JU JC AH AJ AG)<;>(try clear fa))
    exact hJ _ (k+1,g) (by dsimp only;omega) ⟨by dsimp only;omega,hnext⟩ (by (have fa:=(And.intro hsu @Ar.eq_1);exact CZ))
   ·have:a=true:=by rw [e] at hok;simp at hok;exact hok
    subst this;simp only [e] at hsu;(have fa:=(And.intro e (And.intro h5 (And.intro hT (And.intro @Ar.eq_1 @bne_self_eq_false.{0}))));(repeat' first|refine zS CS ?_|refine zQ ?_|refine zN ?_;intro K hC hK|refine zM ?_;try clear hK hC K|refine zC ?_ ?_<;>intro hb|refine zK ?_;intro Jo JU JC AH AJ AG)<;>(try clear fa))
    exact hJ _ (k+1,g+1) (by dsimp only;omega) ⟨by dsimp only;omega,hnext⟩ (by (have fa:=(And.intro hsu (And.intro @List.length_append.{0} (And.intro h5 @Ar.eq_1)));exact CZ))
   ·have:a=true:=by rw [e] at hok;simp at hok;exact hok
    subst this;simp only [e] at hsu;(have fa:=(And.intro e (And.intro h4 (And.intro hT (And.intro @Ar.eq_1 @bne_self_eq_false.{0}))));(repeat' first|refine zS CS ?_|refine zQ ?_|refine zN ?_;intro K hC hK|refine zM ?_;try clear hK hC K|refine zC ?_ ?_<;>intro hb|refine zK ?_;intro Jo JU JC AH AJ AG)<;>(try clear fa))
    exact hJ _ (k+1,g+1) (by dsimp only;omega) ⟨by dsimp only;omega,hnext⟩ (by (have fa:=(And.intro hsu (And.intro @List.length_append.{0} (And.intro h4 @Ar.eq_1)));exact CZ))
  ·have hU:I9 bag f.ks=[]:=by
    unfold I9;rw [if_neg];unfold Mc;rw [List.all_eq_true];exact fun hq=>hbad (hq k (List.mem_range.2 h))
   have hb' :cR bag f.ks k=false:=by simpa using hbad
   rw [hb'] at hok;cases a with
   | true =>
    have hbd:bag[k]≤0∨2<bag[k]:=by simp at hok;omega
    (have fa:= @Ar.eq_1;(repeat' first|refine zS CS ?_|refine zQ ?_|refine zN ?_;intro K hC hK|refine zM ?_;try clear hK hC K|refine zC ?_ ?_<;>intro hb|refine zK ?_;intro Jo JU JC AH AJ AG)<;>(try clear fa))
    all_goals first
    |(exfalso;omega)
    |(refine Aa [] ?_ ?_<;>(first|exact AK|refine zE ?_);rw [hU];exact An.nil _ _)
    |(exfalso;simp at hb;omega)
    |(exfalso;clear CS hgood;simp_all;done)
   | false =>
    have hbd:0<bag[k]:=by simp at hok;omega
    have hdd:=decide_eq_true hbd;(have fa:=(And.intro @Ar.eq_1 hdd);(repeat' first|refine zS CS ?_|refine zQ ?_|refine zN ?_;intro K hC hK|refine zM ?_;try clear hK hC K|refine zC ?_ ?_<;>intro hb|refine zK ?_;intro Jo JU JC AH AJ AG)<;>(try clear fa))
    all_goals first
    |(exfalso;omega)
    |(refine Aa [] ?_ ?_<;>(first|exact AK|refine zE ?_);rw [hU];exact An.nil _ _)
    |(exfalso;simp at hb;omega)
    |(exfalso;simp [hdd] at *;done)
 ·obtain rfl:k=bag.length:=by omega
  have hU:I9 bag f.ks=[CX (ET bag bag.length)]:=by
   unfold I9;rw [if_pos];unfold Mc;rw [List.all_eq_true];exact fun i hi=>hgood i (List.mem_range.1 hi)
  have hpos:0<(ET bag bag.length).length:=by
   refine List.length_pos_iff.2 fun hn=> ?_
   have h1:=R1 hn;have h2:=Tm (Y:=bag) fun i hi=>by
    have:=h1 i hi;have h3:=hgood i hi;have h4:=hb i;unfold cR at h3;simp at h3;simp at this h4 ⊢;omega
   omega
  have CO:=Jw (ET bag bag.length) hpos (by omega) (Tq bag _);obtain ⟨L,hL⟩:∃L,ET bag bag.length=L:=⟨_,rfl⟩;rw [hL] at hln hU hpos CO ⊢;have hT:L.take L.length=L:=List.take_length;(have fa:=hT;(repeat' first|refine zS CO ?_|refine zQ ?_|refine zN ?_;intro K hC hK|refine zM ?_;try clear hK hC K|refine zC ?_ ?_<;>intro hb|refine zK ?_;intro Jo JU JC AH AJ AG)<;>(try clear fa))
  refine Aa [] ?_ ?_<;>(first|exact AK|refine zE ?_);rw [hU];refine An.trans (An.low _) (An.eq ?_);simp [AV.low,lowL,lowL_eGp,EG,AX]
def eW (w:List Int):AV:= .agg (w.map I)
theorem Qt:AM Tryz.prog 172 [] (.sl true 3 (Au.map eW)):=by
 refine zb Tryz.ntmps172 ?_;let tb:=Z7;let lv:=Xk;(repeat' first|refine zQ ?_|refine zN ?_;intro K hC hK|refine zM ?_;try clear hK hC K|refine zC ?_ ?_<;>intro hb|refine zK ?_;intro Jo JU JC AH AJ AG)
 refine Aa [] ?_ ?_<;>(first|exact AK|refine zE ?_);rfl
def QH (s:AL) (k:Nat):Int:=(Bm s (k:Int)).1
def SC (s:AL) (k:Nat):Int:=(Bm s (k:Int)).2
theorem Gq:∀w∈Au,∃a b c:Int,w=[a,b,c]∧(0≤a∧a≤2)∧(0≤b∧b≤2)∧(0≤c∧c≤2):=by
 intro w hw;simp only [Au,List.mem_cons,List.not_mem_nil,or_false] at hw;rcases hw with rfl|rfl|rfl|rfl|rfl|rfl<;>exact ⟨_,_,_,rfl,by omega,by omega,by omega⟩
theorem OT:Au.length=6:=rfl
theorem Vc {su rk:Nat→Int} {bag:List Int} {k:Nat} (h:k<bag.length) {w:List Int} (hk:T6 su rk bag w k=false):K5 su rk bag w=false:=by
 unfold K5;rw [List.all_eq_false];exact ⟨k,by simpa using h,by rw [hk];simp⟩
set_option maxHeartbeats 4000000 in
theorem QZ (s:AL) (f:Fm) (h:Hd) (su rk:Nat→Int) (CP:∀k:Nat,AM Tryz.prog 126 [AO s,I k] (.tup [I (su k),I (rk k)])) (hb:Sb h.bag) (hl:h.bag.length≤1000) (hsu:∀k:Nat,su k<3) (hrk:∀k:Nat,0≤su k→0≤rk k):AM Tryz.prog 136 [Ar s f h] (EG false (Gm su rk h.bag)):=by
 refine Ba ?_;obtain ⟨bag,me⟩:=h;dsimp only at hb hl ⊢;have CS:=G8 bag hb hl;refine zb Tryz.ntmps136 ?_;let tb:=Zz;let lv:=Vu;(have fa:= @Ar.eq_1;(repeat' first|refine zS Qt ?_|refine zQ ?_|refine zN ?_;intro K hC hK|refine zM ?_;try clear hK hC K|refine zC ?_ ?_<;>intro hb|refine zK ?_;intro Jo JU JC AH AJ AG)<;>(try clear fa))
 refine Ab 6 (fun i σ=>(∀j,(hj:j<Au.length)→j<i→K5 su rk bag Au[j]=false)∧σ=⟨900,[(1, .ref 0 0 0 0),(10, .sl true 3 (Au.map eW)),(11,I 6),(12,I i)],[(0, .arr 0 14 [Ar s f ⟨bag,me⟩])]⟩) [(0,0)] [(0,0)] 0 [1,10,11,12] 900 zf zf ⟨fun j _ h=>absurd h (Nat.not_lt_zero j),by (have fa:=(And.intro @Ar.eq_1 (And.intro @Au.eq_1 @eW.eq_1));exact zV)⟩ ?_;rintro i σ' hi ⟨hR,rfl⟩ J hcJ hJ;by_cases h:i<6
 ·have hip:i<Au.length:=h;obtain ⟨w,hw⟩:∃w,Au[i]=w:=⟨_,rfl⟩;obtain ⟨a,b,c,rfl,ha,hbb,hc⟩:=Gq w (by rw [←hw];exact List.getElem_mem hip);have hn:Dv (List.map eW Au) i= .agg [I a,I b,I c]:=by simp [Dv,hip,hw,eW]
  (have fa:=(And.intro hn @Ar.eq_1);(repeat' first|refine zQ ?_|refine zN ?_;intro K hC hK|refine zM ?_;try clear hK hC K|refine zC ?_ ?_<;>intro hb|refine zK ?_;intro Jo JU JC AH AJ AG)<;>(try clear fa))
  refine Ab bag.length (fun k σ=>(∀j,j<k→T6 su rk bag [a,b,c] j=true)∧σ=⟨900,[(1, .ref 0 0 0 0),(4, .ref 1 0 0 0),(5, .ref 2 0 0 0),(10, .sl true 3 (Au.map eW)),(11,I 6),(12,I i),(19,AN false bag),(20,I bag.length),(21,I k)],[(0, .arr 0 14 [Ar s f ⟨bag,me⟩]),(1, .arr 0 3 [.agg [I a,I b,I c]]),(2, .arr 0 3 [.agg [I a,I b,I c]])]⟩) [(0,0),(948,1),(996,2)] [(0,0),(1,1),(2,2)] 0 [1,4,5,10,11,12,19,20,21] 900 zf zf ⟨fun j h=>absurd h (Nat.not_lt_zero j),by (have fa:= @Ar.eq_1;exact zV)⟩ ?_;rintro k σ' hk ⟨hG,rfl⟩ J2 hcJ2 hJ2;have hbad:∀j,j<bag.length→T6 su rk bag [a,b,c] j=false→∀j',(hj' :j' <Au.length)→j' <i+1→K5 su rk bag Au[j']=false:=fun j hj hf j' hj' h2=>by
   by_cases e:j' =i
   ·subst e;rw [hw];exact Vc hj hf
   ·exact hR j' hj' (by omega)
  by_cases hlt:k<bag.length
  ·have hge:bag.getD k 0=bag[k]:=by simp [hlt]
   have hbk:=hb k;have CPk:=CP k;have hs3:=hsu k;have hr0:=hrk k;have hok:T6 su rk bag [a,b,c] k=(decide (bag[k]≤1)&&(!(decide (bag[k]=1)&&decide (0≤su k)) || decide (rk k % 3=[a,b,c].getD (su k).toNat 0))):=by unfold T6 eD;rw [hge]
   rw [hge] at hbk;obtain ⟨z,hz⟩:∃z,bag[k]=z:=⟨_,rfl⟩;obtain ⟨u,hu⟩:∃u,su k=u:=⟨_,rfl⟩;obtain ⟨r,hr⟩:∃r,rk k=r:=⟨_,rfl⟩;rw [hz] at hbk;rw [hz,hu,hr] at hok;rw [hu,hr] at CPk hr0;rw [hu] at hs3;by_cases h1:1<z
   ·have hU:Gm su rk bag=[]:=by
     unfold Gm;rw [if_neg];intro hq;obtain ⟨w,_,hw2⟩:=List.any_eq_true.1 hq;have:=(Gk.1 hw2 k hlt).1;rw [hge,hz] at this;omega
    (have fa:=(And.intro hz @Ar.eq_1);(repeat' first|refine zS CPk ?_|refine zQ ?_|refine zN ?_;intro K hC hK|refine zM ?_;try clear hK hC K|refine zC ?_ ?_<;>intro hb|refine zK ?_;intro Jo JU JC AH AJ AG)<;>(try clear fa))
    refine Aa [] ?_ ?_<;>(first|exact AK|refine zE ?_);rw [hU];exact An.nil _ _
   ·by_cases h2:z=1∧0≤u
    ·obtain ⟨rfl,hu0⟩:=h2;have htm:r.tmod 3=r % 3:=Int.tmod_eq_emod_of_nonneg (hr0 hu0);obtain ⟨m,hm⟩:∃m,r % 3=m:=⟨_,rfl⟩;rw [hm] at htm hok;have hu3:u=0∨u=1∨u=2:=by omega
     have next:T6 su rk bag [a,b,c] k=true→∀j,j<k+1→T6 su rk bag [a,b,c] j=true:=fun h1 j h2=>by
      by_cases e:j=k
      ·subst e;exact h1
      ·exact hG j (by omega)
     rcases hu3 with rfl|rfl|rfl
     ·by_cases he:m=a
      ·subst he;(have fa:=(And.intro hz (And.intro htm (And.intro @Ar.eq_1 @bne_self_eq_false.{0})));(repeat' first|refine zS CPk ?_|refine zQ ?_|refine zN ?_;intro K hC hK|refine zM ?_;try clear hK hC K|refine zC ?_ ?_<;>intro hb|refine zK ?_;intro Jo JU JC AH AJ AG)<;>(try clear fa))
       exact hJ2 _ hlt ⟨next (by simp [hok]),by (have fa:= @Ar.eq_1;exact zV)⟩
      ·have hne:(m != a)=true:=by simp [he]
       have hof:T6 su rk bag [a,b,c] k=false:=by simp [hok,he]
       (have fa:=(And.intro hz (And.intro htm (And.intro @Ar.eq_1 hne)));(repeat' first|refine zS CPk ?_|refine zQ ?_|refine zN ?_;intro K hC hK|refine zM ?_;try clear hK hC K|refine zC ?_ ?_<;>intro hb|refine zK ?_;intro Jo JU JC AH AJ AG)<;>(try clear fa))
       exact hJ _ h ⟨hbad k hlt hof,by (have fa:= @Ar.eq_1;exact zV)⟩
     ·by_cases he:m=b
      ·subst he;(have fa:=(And.intro hz (And.intro htm (And.intro @Ar.eq_1 @bne_self_eq_false.{0})));(repeat' first|refine zS CPk ?_|refine zQ ?_|refine zN ?_;intro K hC hK|refine zM ?_;try clear hK hC K|refine zC ?_ ?_<;>intro hb|refine zK ?_;intro Jo JU JC AH AJ AG)<;>(try clear fa))
       exact hJ2 _ hlt ⟨next (by simp [hok]),by (have fa:= @Ar.eq_1;exact zV)⟩
      ·have hne:(m != b)=true:=by simp [he]
       have hof:T6 su rk bag [a,b,c] k=false:=by simp [hok,he]
       (have fa:=(And.intro hz (And.intro htm (And.intro @Ar.eq_1 hne)));(repeat' first|refine zS CPk ?_|refine zQ ?_|refine zN ?_;intro K hC hK|refine zM ?_;try clear hK hC K|refine zC ?_ ?_<;>intro hb|refine zK ?_;intro Jo JU JC AH AJ AG)<;>(try clear fa))
       exact hJ _ h ⟨hbad k hlt hof,by (have fa:= @Ar.eq_1;exact zV)⟩
     ·by_cases he:m=c
      ·subst he;(have fa:=(And.intro hz (And.intro htm (And.intro @Ar.eq_1 @bne_self_eq_false.{0})));(repeat' first|refine zS CPk ?_|refine zQ ?_|refine zN ?_;intro K hC hK|refine zM ?_;try clear hK hC K|refine zC ?_ ?_<;>intro hb|refine zK ?_;intro Jo JU JC AH AJ AG)<;>(try clear fa))
       exact hJ2 _ hlt ⟨next (by simp [hok]),by (have fa:= @Ar.eq_1;exact zV)⟩
      ·have hne:(m != c)=true:=by simp [he]
       have hof:T6 su rk bag [a,b,c] k=false:=by simp [hok,he]
       (have fa:=(And.intro hz (And.intro htm (And.intro @Ar.eq_1 hne)));(repeat' first|refine zS CPk ?_|refine zQ ?_|refine zN ?_;intro K hC hK|refine zM ?_;try clear hK hC K|refine zC ?_ ?_<;>intro hb|refine zK ?_;intro Jo JU JC AH AJ AG)<;>(try clear fa))
       exact hJ _ h ⟨hbad k hlt hof,by (have fa:= @Ar.eq_1;exact zV)⟩
    ·have hok1:T6 su rk bag [a,b,c] k=true:=by
      rw [hok];have:z≤1:=by omega
      by_cases hz1:z=1
      ·have:¬0≤u:=fun h=>h2 ⟨hz1,h⟩
       simp [hz1,this]
      ·simp [hz1];omega
     have next:∀j,j<k+1→T6 su rk bag [a,b,c] j=true:=fun j h2=>by
      by_cases e:j=k
      ·subst e;exact hok1
      ·exact hG j (by omega)
     by_cases hz1:z=1
     ·have hu0:u<0:=by
       by_cases h:0≤u
       ·exact absurd ⟨hz1,h⟩ h2
       ·omega
      subst hz1;(have fa:=(And.intro hz @Ar.eq_1);(repeat' first|refine zS CPk ?_|refine zQ ?_|refine zN ?_;intro K hC hK|refine zM ?_;try clear hK hC K|refine zC ?_ ?_<;>intro hb|refine zK ?_;intro Jo JU JC AH AJ AG)<;>(try clear fa))
      exact hJ2 _ hlt ⟨next,by (have fa:= @Ar.eq_1;exact zV)⟩
     ·(have fa:=(And.intro hz @Ar.eq_1);(repeat' first|refine zS CPk ?_|refine zQ ?_|refine zN ?_;intro K hC hK|refine zM ?_;try clear hK hC K|refine zC ?_ ?_<;>intro hb|refine zK ?_;intro Jo JU JC AH AJ AG)<;>(try clear fa))
      all_goals first
      |(exfalso;omega)
      |exact hJ2 _ hlt ⟨next,by (have fa:= @Ar.eq_1;exact zV)⟩
  ·obtain rfl:k=bag.length:=by omega
   have hU:Gm su rk bag=[Hp bag]:=by
    unfold Gm;rw [if_pos];refine List.any_eq_true.2 ⟨[a,b,c],by rw [←hw];exact List.getElem_mem hip,?_⟩;unfold K5;rw [List.all_eq_true];intro j hj;exact hG j (by simpa using hj)
   (have fa:=(And.intro @Ar.eq_1 @bne_self_eq_false.{0});(repeat' first|refine zS CS ?_|refine zQ ?_|refine zN ?_;intro K hC hK|refine zM ?_;try clear hK hC K|refine zC ?_ ?_<;>intro hb|refine zK ?_;intro Jo JU JC AH AJ AG)<;>(try clear fa))
   refine Aa [] ?_ ?_<;>(first|exact AK|refine zE ?_);rw [hU];refine An.trans (An.low _) (An.eq ?_);simp [AV.low,lowL,lowL_eGp,EG,AX]
 ·obtain rfl:i=6:=by omega
  have hU:Gm su rk bag=[]:=by
   unfold Gm;rw [if_neg];intro hq;obtain ⟨w,hw1,hw2⟩:=List.any_eq_true.1 hq;obtain ⟨j,hj,rfl⟩:=List.mem_iff_getElem.1 hw1;rw [hR j hj (by rw [OT] at hj;exact hj)] at hw2;cases hw2
  (repeat' first|refine zQ ?_|refine zN ?_;intro K hC hK|refine zM ?_;try clear hK hC K|refine zC ?_ ?_<;>intro hb|refine zK ?_;intro Jo JU JC AH AJ AG)
  refine Aa [] ?_ ?_<;>(first|exact AK|refine zE ?_);rw [hU];exact An.nil _ _
theorem TN (s:AL) (f:Fm) (h:Hd) (hb:Sb h.bag) (hl:h.bag.length≤1000) (hsu:∀k:Nat,QH s k<3) (hrk:∀k:Nat,0≤QH s k→0≤SC s k):AM Tryz.prog 136 [Ar s f h] (EG false (Gm (QH s) (SC s) h.bag)):=QZ s f h (QH s) (SC s) (fun k=>JQ s k) hb hl hsu hrk
end Go.Proofs.YthblfhgofopcaaaGreat
