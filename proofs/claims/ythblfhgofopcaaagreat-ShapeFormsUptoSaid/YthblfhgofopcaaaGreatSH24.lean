/-
  Parts of the proof: SplC.
-/
import Derived.Test.YthblfhgofopcaaaGreatSH21
set_option linter.all false
namespace Go.Proofs.YthblfhgofopcaaaGreat
section
variable (n:Nat) (rn:Int→Bool)
def MF (g:Gp):Prop:=g.op=false∧0≤g.kd∧g.kd<(n:Int)∧g.wh=4
structure Hu (bag:List Int) (x:List Gp):Prop where
 sg:SG x
 me:∀g∈x,FJ n rn g∨MF n g
 pr:x.countP (fun g=>g.wh==4)=1
 ct:∀i,B7 x i=bag.getD i 0
end
def Dh (rn:Int→Bool) (f:Nat) (bag:List Int) (out:List (List Gp)) (k:Nat):List (List Gp) :=
 if bag.getD k 0<2 then out else match BX bag [(k:Int),(k:Int)] with
  | none=>out
  | some r=>DB (gp 4 k) out (Cc rn f r)
def Eg (rn:Int→Bool) (f:Nat) (bag:List Int):List (List Gp):=(List.range bag.length).foldl (Dh rn f bag) []
section
variable {n:Nat} {rn:Int→Bool}
theorem Hu.cl {bag:List Int} {x:List Gp} (h:Hu n rn bag x):Cl x:=fun g hg=>(h.me g hg).elim (·.1) (·.1)
theorem FJ.no4 {g:Gp} (h:FJ n rn g):(g.wh==4)=false:=by rcases h.2.2.2 with h | ⟨h,_⟩<;>rw [h]<;>rfl
theorem gF {x:List Gp} (h:∀g∈x,FJ n rn g):x.countP (fun g=>g.wh==4)=0:=by
 rw [List.countP_eq_zero];intro g hg;rw [(h g hg).no4];simp
theorem Fb (hr:C7 n rn) {f:Nat} {bag:List Int} (hb:Bg n bag) (hs:bag.sum<(f:Int)):SL (Eg rn f bag)∧∀x,x∈Eg rn f bag↔Hu n rn bag x:=by
 have step:∀k,k<n→∀out,SL out→(∀x∈out,Cl x)→SL (Dh rn f bag out k)∧(∀x∈Dh rn f bag out k,Cl x)∧∀x,x∈Dh rn f bag out k↔x∈out∨(gp 4 k∈x∧Hu n rn bag x):=by
  intro k hk out h1 h2;have hP:MF n (gp 4 k):=⟨rfl,by show (0:Int)≤k;omega,by show (k:Int)<n;omega,rfl⟩;have ht:D8 n [(k:Int),(k:Int)]:=fun z hz=>by simp at hz;omega
  have hc:∀i,Cz [(k:Int),(k:Int)] i=if (k:Int)=(i:Int) then 2 else 0:=fun i=>by
   rw [BW,BW];simp only [Cz];split<;>simp
  have need:∀x,gp 4 k∈x→Hu n rn bag x→2≤bag.getD k 0:=fun x h3 h4=>by
   have:=EY h3 k;rw [h4.ct,Dc,if_pos rfl] at this;exact this
  unfold Dh;by_cases h2' :bag.getD k 0<2
  ·rw [if_pos h2'];exact ⟨h1,h2,fun x=>⟨.inl,fun h=>h.elim id fun ⟨h3,h4⟩=>absurd (need x h3 h4) (by omega)⟩⟩
  ·rw [if_neg h2'];rcases C5 [(k:Int),(k:Int)] bag (by rw [hb.1];exact ht) hb.2 with ⟨k1,k2⟩ | ⟨k1,i,k2⟩
   ·rw [k1];simp only;have hb' :=hb.dec ht k2;have hsum:=Ck [(k:Int),(k:Int)] bag (by rw [hb.1];exact ht);obtain ⟨j1,j2⟩:=R7 hr f (Ah bag [(k:Int),(k:Int)]) hb' (by simp at hsum;omega);obtain ⟨i1,i2,i3⟩:=KO (g:=gp 4 k) rfl (Cc rn f (Ah bag [(k:Int),(k:Int)])) out h1 h2 fun l hl=>((j2 l).1 hl).cl
    refine ⟨i1,i2,fun x=>(i3 x).trans ?_⟩;constructor
    ·rintro (h | ⟨l,hl,rfl⟩)
     ·exact .inl h
     ·have hM:=(j2 l).1 hl;refine .inr ⟨(Br l _).symm.subset (by simp),Ea _ hM.sg,fun y hy=> ?_,?_,fun i=> ?_⟩
      ·rcases List.mem_cons.1 ((Br l _).subset hy) with rfl | hy
       ·exact .inr hP
       ·exact .inl (hM.me y hy)
      ·rw [(Br l _).countP_eq,List.countP_cons,gF hM.me];rfl
      ·rw [EK (Br l _)];have:=hM.ct i;rw [BF _ _ (by rw [hb.1];exact ht),hc] at this;simp only [B7,Dc];rw [this];omega
    ·rintro (h | ⟨h3,h4⟩)
     ·exact .inl h
     ·have hp:=List.perm_cons_erase h3;have hct:∀i,B7 x i=Di (gp 4 k) i+B7 (x.erase (gp 4 k)) i:=fun i=>by rw [EK hp];rfl
      have hcp:=hp.countP_eq (fun g:Gp=>g.wh==4);rw [h4.pr,List.countP_cons] at hcp;have e4:((gp 4 (k:Int)).wh==4)=true:=rfl;rw [e4,if_pos rfl] at hcp;have hz:(x.erase (gp 4 k)).countP (fun g=>g.wh==4)=0:=by omega
      have hse:SG (x.erase (gp 4 k)):=h4.sg.sublist List.erase_sublist;refine .inr ⟨x.erase (gp 4 k),(j2 _).2 ⟨hse,fun y hy=> ?_,fun i=> ?_⟩,?_⟩
      ·rcases h4.me y (List.mem_of_mem_erase hy) with h | h
       ·exact h
       ·have:=List.countP_eq_zero.1 hz y hy;rw [h.2.2.2] at this;exact absurd rfl this
      ·rw [BF _ _ (by rw [hb.1];exact ht),hc];have:=hct i;rw [h4.ct,Dc] at this;omega
      ·exact (L9 ((Br _ _).trans hp.symm) (Ea _ hse) h4.sg (NW (fun y hy=>h4.cl y (List.mem_of_mem_erase hy)) rfl)).symm
   ·exfalso;rw [hc] at k2;have:=hb.2 i;split at k2
    ·rename_i he;have:k=i:=by omega
     subst this;omega
    ·omega
 have all:∀ks:List Nat,(∀k∈ks,k<n)→∀out,SL out→(∀x∈out,Cl x)→SL (ks.foldl (Dh rn f bag) out)∧∀x,x∈ks.foldl (Dh rn f bag) out↔x∈out∨((∃k∈ks,gp 4 (k:Nat)∈x)∧Hu n rn bag x):=by
  intro ks;induction ks with
  | nil=>intro _ out h1 h2;exact ⟨h1,fun x=>by simp⟩
  | cons k ks ih =>
   intro hks out h1 h2;obtain ⟨s1,s2,s3⟩:=step k (hks k (by simp)) out h1 h2;obtain ⟨a1,a2⟩:=ih (fun y hy=>hks y (by simp [hy])) (Dh rn f bag out k) s1 s2;refine ⟨a1,fun x=>(a2 x).trans ?_⟩;rw [s3];constructor
   ·rintro ((h | ⟨h3,h4⟩) | ⟨⟨y,hy,h3⟩,h4⟩)
    ·exact .inl h
    ·exact .inr ⟨⟨k,by simp,h3⟩,h4⟩
    ·exact .inr ⟨⟨y,by simp [hy],h3⟩,h4⟩
   ·rintro (h | ⟨⟨y,hy,h3⟩,h4⟩)
    ·exact .inl (.inl h)
    ·rcases List.mem_cons.1 hy with rfl | hy
     ·exact .inl (.inr ⟨h3,h4⟩)
     ·exact .inr ⟨⟨y,hy,h3⟩,h4⟩
 obtain ⟨a1,a2⟩:=all (List.range bag.length) (fun k hk=>by rw [hb.1] at hk;exact List.mem_range.1 hk) [] List.Pairwise.nil (fun x hx=>by cases hx);refine ⟨a1,fun x=>(a2 x).trans ?_⟩;constructor
 ·rintro (h | h)
  ·cases h
  ·exact h.2
 ·intro h;have:0<x.countP (fun g=>g.wh==4):=by rw [h.pr];exact Nat.one_pos
  obtain ⟨g,hg,h4⟩:=List.countP_pos_iff.1 this;have h4' :g.wh=4:=by simpa using h4
  rcases h.me g hg with hm | hm
  ·rw [hm.no4] at h4;cases h4
  ·refine .inr ⟨⟨g.kd.toNat,by rw [hb.1];have:=hm.2.1;have:=hm.2.2.1;simp;omega,?_⟩,h⟩;have:gp 4 (g.kd.toNat:Nat)=g:=by
    obtain ⟨w,q,o⟩:=g;have h1:=hm.1;have h2:=hm.2.1;simp only at h1 h2 h4';subst h1 h4';simp only [gp,Gp.mk.injEq,and_true,true_and];omega
   rw [this];exact hg
end
def BZ:Option Gp→Int→Int
 | some p,k=>if p.kd=k then p.wh else 0
 | none,_=>0
def Ef (rn:Int→Bool):Nat→List Int→Option Gp→Bool→List (List Gp)
 | 0,_,_,_=>[]
 | f+1,left,prev,pd =>
  if AB left=left.length then (if pd=true then [[]] else [])
  else
   (if 2≤left.getD (AB left) 0∧pd=false∧BZ prev (AB left)=0 then (Ef rn f (Ah left [(AB left:Int),(AB left:Int)]) (some (gp 4 (AB left))) true).map (gp 4 (AB left)::·) else []) ++
   ((if 3≤left.getD (AB left) 0∧BZ prev (AB left)≠1 then (Ef rn f (Ah left [(AB left:Int),(AB left:Int),(AB left:Int)]) (some (gp 2 (AB left))) pd).map (gp 2 (AB left)::·) else []) ++
   (if rn (AB left)=true∧0<left.getD (AB left+1) 0∧0<left.getD (AB left+2) 0 then (Ef rn f (Ah left [(AB left:Int),(AB left:Int)+1,(AB left:Int)+2]) (some (gp 1 (AB left))) pd).map (gp 1 (AB left)::·) else []))
def GP (a b:Gp):Prop:=a.kd<b.kd∨(a.kd=b.kd∧b.wh≤a.wh)
theorem Nl {a b c:Gp} (h1:GP a b) (h2:GP b c):GP a c:=by unfold GP at *;omega
section
variable (n:Nat) (rn:Int→Bool)
structure LL (left:List Int) (prev:Option Gp) (pd:Bool) (r:List Gp):Prop where
 so:r.Pairwise GP
 fr:∀p,prev=some p→∀g∈r,GP p g
 me:∀g∈r,FJ n rn g∨MF n g
 pr:r.countP (fun g=>g.wh==4)=if pd=true then 0 else 1
 ct:∀i,B7 r i=left.getD i 0
def jR (left:List Int) (prev:Option Gp) (pd:Bool):Prop:=∀p,prev=some p→(∀i:Nat,(i:Int)<p.kd→left.getD i 0=0)∧(p.wh=4→pd=true)∧(p.wh=1∨p.wh=2∨p.wh=4)∧0≤p.kd
end
section
variable {n:Nat} {rn:Int→Bool}
theorem Kw (hr:C7 n rn) {g:Gp} (h:FJ n rn g∨MF n g):D8 n (AI g.wh g.kd)∧0<(AI g.wh g.kd).length:=by
 rcases h with h | h
 ·exact ⟨h.tiles hr,by rw [h.len];omega⟩
 ·rw [h.2.2.2,HC];exact ⟨fun z hz=>by have:=h.2.1;have:=h.2.2.1;simp at hz;omega,by simp⟩
theorem Yn (hr:C7 n rn) {g:Gp} {i:Nat} (h:FJ n rn g∨MF n g) (hc:0<Di g i):g.kd≤(i:Int):=by
 rcases h with h | h
 ·exact h.low hc
 ·rw [show g=⟨4,g.kd,g.op⟩ by rw [←h.2.2.2]] at hc;rw [Dc] at hc;split at hc<;>omega
theorem Vj {g:Gp} (h:FJ n rn g∨MF n g):0<Di g g.kd.toNat:=by
 rcases h with h | h
 ·exact h.at_kd
 ·have:=h.2.1;rw [show Di g g.kd.toNat=Di ⟨4,g.kd,g.op⟩ g.kd.toNat by rw [←h.2.2.2],Dc,if_pos (by omega)];omega
theorem W7 (hr:C7 n rn) {left:List Int} {prev:Option Gp} {pd pd' :Bool} (hb:Bg n left) (hp:jR left prev pd) (hk:AB left<left.length) {g:Gp} (hg:FJ n rn g∨MF n g) (hgk:g.kd=(AB left:Int))
  (hpd:pd' =(pd || g.wh==4)) (hno:g.wh=4→pd=false) (hlast:∀p,prev=some p→GP p g) {L:List (List Gp)} (hL:L.Nodup∧∀r,r∈L↔LL n rn (Ah left (AI g.wh g.kd)) (some g) pd' r) :
  (L.map (g::·)).Nodup∧∀r,r∈L.map (g::·)↔(∃r',r=g::r')∧LL n rn left prev pd r:=by
 have ht:=Kw hr hg;have hget:=BF (AI g.wh g.kd) left (by rw [hb.1];exact ht.1);refine ⟨List.pairwise_map.2 (hL.1.imp fun hab he=>hab (by injection he)),fun r=> ?_⟩;rw [List.mem_map];constructor
 ·rintro ⟨r',hr',rfl⟩;have h:=(hL.2 r').1 hr';refine ⟨⟨r',rfl⟩,List.pairwise_cons.2 ⟨h.fr g rfl,h.so⟩,fun p hpp y hy=> ?_,fun y hy=> ?_,?_,fun i=> ?_⟩
  ·rcases List.mem_cons.1 hy with rfl | hy
   ·exact hlast p hpp
   ·exact Nl (hlast p hpp) (h.fr g rfl y hy)
  ·rcases List.mem_cons.1 hy with rfl | hy
   ·exact hg
   ·exact h.me y hy
  ·rw [List.countP_cons,h.pr,hpd];by_cases h4:g.wh=4
   ·rw [hno h4];simp [h4]
   ·have:(g.wh==4)=false:=by simpa using h4
    simp [this]
  ·have:=h.ct i;rw [hget] at this;simp only [B7,this];show Cz _ i+_=_;omega
 ·rintro ⟨⟨r',rfl⟩,h⟩;refine ⟨r',(hL.2 r').2 ⟨(List.pairwise_cons.1 h.so).2,fun p hpp y hy=> ?_,fun y hy=>h.me y (by simp [hy]),?_,fun i=> ?_⟩,rfl⟩
  ·injection hpp with hpp
   subst hpp;exact (List.pairwise_cons.1 h.so).1 y hy
  ·have:=h.pr;rw [List.countP_cons] at this;rw [hpd];by_cases h4:g.wh=4
   ·rw [hno h4] at this ⊢;simp [h4] at this ⊢;exact this
   ·have e:(g.wh==4)=false:=by simpa using h4
    simp only [e,Bool.or_false,Bool.false_eq_true,if_false,Nat.add_zero] at this ⊢;exact this
  ·rw [hget];have:=h.ct i;simp only [B7] at this;show _=_-Di g i;omega
theorem W6 (hr:C7 n rn):∀(f:Nat) (left:List Int) (prev:Option Gp) (pd:Bool),Bg n left→jR left prev pd→left.sum<(f:Int)→(Ef rn f left prev pd).Nodup∧∀r,r∈Ef rn f left prev pd↔LL n rn left prev pd r
 | 0,left,_,_,hb,_,hs=>absurd hs (by have:=DQ hb.2;omega)
 | f+1,left,prev,pd,hb,hp,hs=>by
  unfold Ef;by_cases hk:AB left=left.length
  ·rw [if_pos hk];have empty:∀r,LL n rn left prev pd r→r=[]:=fun r h=>by
    cases r with
    | nil=>rfl
    | cons g r =>
     have k1:=Vj (h.me g (by simp));have k2:=EY (l:=g::r) (g:=g) (by simp) g.kd.toNat;rw [h.ct,GL hk] at k2;omega
   cases pd with
   | true =>
    rw [if_pos rfl];refine ⟨by simp,fun r=> ?_⟩;rw [List.mem_singleton];constructor
    ·rintro rfl;exact ⟨List.Pairwise.nil,(fun _ _ g hg=>by cases hg),(fun g hg=>by cases hg),rfl,fun i=>by rw [GL hk];rfl⟩
    ·exact empty r
   | false =>
    rw [if_neg (by simp)];refine ⟨List.nodup_nil,fun r=>⟨(fun h=>by cases h),fun h=> ?_⟩⟩;have:=empty r h;subst this;exact absurd h.pr (by simp)
  ·rw [if_neg hk];have hlt:AB left<left.length:=Nat.lt_of_le_of_ne (BG left) hk;have h0:=hb.2 (AB left);have hne:=Bu left hlt;have hln:=hb.1;generalize hK:AB left=k at *;have hcrel:∀p,prev=some p→∀w,(p.kd=(k:Int)→w≤p.wh)→GP p (gp w k):=fun p hpp w hw=>by
    obtain ⟨q1,_⟩:=hp p hpp;have:p.kd≤(k:Int):=by
     by_cases h:(k:Int)<p.kd
     ·exact absurd (q1 k h) hne
     ·omega
    rcases Int.lt_or_eq_of_le this with h | h
    ·exact .inl h
    ·exact .inr ⟨h,hw h⟩
   have part:∀(w:Int) (pd' :Bool),(FJ n rn (gp w k)∨MF n (gp w k))→(∀i,Di (gp w k) i≤left.getD i 0)→pd' =(pd || w==4)→(w=4→pd=false)→(∀p,prev=some p→GP p (gp w k))→
     ((Ef rn f (Ah left (AI w k)) (some (gp w k)) pd').map (gp w k::·)).Nodup∧∀r,r∈(Ef rn f (Ah left (AI w k)) (some (gp w k)) pd').map (gp w k::·)↔(∃r',r=gp w k::r')∧LL n rn left prev pd r:=by
    intro w pd' hg hct hpd hno hl;have ht:=Kw hr hg;have hsum:=Ck (AI w k) left (by rw [hb.1];exact ht.1);have hlen:0<(AI w (k:Int)).length:=ht.2;have hw:w=1∨w=2∨w=4:=by
     rcases hg with ⟨_,_,_,h | ⟨h,_⟩⟩ | h
     ·exact .inr (.inl h)
     ·exact .inl h
     ·exact .inr (.inr h.2.2.2)
    have IH:=W6 hr f (Ah left (AI w k)) (some (gp w k)) pd' (hb.dec ht.1 hct) (fun p hpp=>by
     injection hpp with hpp
     subst hpp
     refine ⟨fun i hi=> ?_,fun h4=> ?_,hw,by show (0:Int)≤k;omega⟩
     ·rw [BF _ _ (by rw [hb.1];exact ht.1)]
      have h1:=hct i
      have h2:=Ds (gp w k) i
      have h3:left.getD i 0=0:=Bf left i (by simp only at hi;omega)
      have h5:Di (gp w k) i=Cz (AI w k) i:=rfl
      omega
     ·rw [hpd];simp only at h4;simp [h4]) (by omega)
    exact W7 hr hb hp (by rw [hK];exact hlt) hg (by rw [hK]) hpd hno hl IH
   have e4:AI 4 (k:Int)=[(k:Int),(k:Int)]:=HC _;have e2:AI 2 (k:Int)=[(k:Int),(k:Int),(k:Int)]:=Fu _;have e1:AI 1 (k:Int)=[(k:Int),(k:Int)+1,(k:Int)+2]:=Fr _;rw [←e2,←e4,←e1];have lw:∀p,prev=some p→p.kd=(k:Int)→BZ prev k=p.wh:=fun p hpp he=>by subst hpp;simp [BZ,he]
   have A:∃L,(if 2≤left.getD k 0∧pd=false∧BZ prev k=0 then (Ef rn f (Ah left (AI 4 k)) (some (gp 4 k)) true).map (gp 4 k::·) else [])=L∧L.Nodup∧∀r,r∈L↔(∃r',r=gp 4 k::r')∧LL n rn left prev pd r:=by
    refine ⟨_,rfl,?_⟩;split
    ·rename_i h;obtain ⟨h1,h2,h3⟩:=h;refine part 4 true (.inr ⟨rfl,by show (0:Int)≤k;omega,by show (k:Int)<n;omega,rfl⟩) (fun i=> ?_) (by simp) (fun _=>h2) (fun p hpp=>hcrel p hpp 4 fun he=> ?_)
     ·rw [Dc];split
      ·rename_i he;have:k=i:=by omega
       subst this;exact h1
      ·exact hb.2 i
     ·have:=lw p hpp he;obtain ⟨_,_,q3,_⟩:=hp p hpp;omega
    ·rename_i h;refine ⟨List.nodup_nil,fun r=>⟨(fun h=>by cases h),?_⟩⟩;rintro ⟨⟨r',rfl⟩,hc⟩;refine absurd ⟨?_,?_,?_⟩ h
     ·have:=EY (l:=gp 4 k::r') (g:=gp 4 k) (by simp) k;rw [hc.ct,Dc,if_pos rfl] at this;exact this
     ·have:=hc.pr;rw [List.countP_cons] at this;cases pd with
      | false=>rfl
      | true=>simp at this
     ·cases hpv:prev with
      | none=>rfl
      | some p =>
       simp only [BZ];split
       ·rename_i he;rcases hc.fr p hpv (gp 4 k) (by simp) with h1 | h1
        ·have:p.kd<(k:Int):=h1;omega
        ·obtain ⟨_,q2,q3,_⟩:=hp p hpv;have h2:(4:Int)≤p.wh:=h1.2;have:=hc.pr;rw [q2 (by omega),List.countP_cons] at this;simp at this
       ·rfl
   have B:∃L,(if 3≤left.getD k 0∧BZ prev k≠1 then (Ef rn f (Ah left (AI 2 k)) (some (gp 2 k)) pd).map (gp 2 k::·) else [])=L∧L.Nodup∧∀r,r∈L↔(∃r',r=gp 2 k::r')∧LL n rn left prev pd r:=by
    refine ⟨_,rfl,?_⟩;split
    ·rename_i h;obtain ⟨h1,h2⟩:=h;refine part 2 pd (.inl ⟨rfl,by show (0:Int)≤k;omega,by show (k:Int)<n;omega, .inl rfl⟩) (fun i=> ?_) (by simp) (fun h=>by omega) (fun p hpp=>hcrel p hpp 2 fun he=> ?_)
     ·rw [DJ];split
      ·rename_i he;have:k=i:=by omega
       subst this;exact h1
      ·exact hb.2 i
     ·have:=lw p hpp he;obtain ⟨_,_,q3,_⟩:=hp p hpp;omega
    ·rename_i h;refine ⟨List.nodup_nil,fun r=>⟨(fun h=>by cases h),?_⟩⟩;rintro ⟨⟨r',rfl⟩,hc⟩;refine absurd ⟨?_,?_⟩ h
     ·have:=EY (l:=gp 2 k::r') (g:=gp 2 k) (by simp) k;rw [hc.ct,DJ,if_pos rfl] at this;exact this
     ·cases hpv:prev with
      | none=>simp [BZ]
      | some p =>
       simp only [BZ];split
       ·rename_i he;rcases hc.fr p hpv (gp 2 k) (by simp) with h1 | h1
        ·have:p.kd<(k:Int):=h1;omega
        ·have h2:(2:Int)≤p.wh:=h1.2;omega
       ·simp
   have C:∃L,(if rn k=true∧0<left.getD (k+1) 0∧0<left.getD (k+2) 0 then (Ef rn f (Ah left (AI 1 k)) (some (gp 1 k)) pd).map (gp 1 k::·) else [])=L∧L.Nodup∧∀r,r∈L↔(∃r',r=gp 1 k::r')∧LL n rn left prev pd r:=by
    refine ⟨_,rfl,?_⟩;split
    ·rename_i h;obtain ⟨h1,h2,h3⟩:=h;refine part 1 pd (.inl ⟨rfl,by show (0:Int)≤k;omega,by show (k:Int)<n;omega, .inr ⟨rfl,h1⟩⟩) (fun i=> ?_) (by simp) (fun h=>by omega) (fun p hpp=>hcrel p hpp 1 fun he=> ?_)
     ·rw [B9];split
      ·rename_i he;rcases he with he | he | he
       ·have:k=i:=by omega
        subst this;omega
       ·have:i=k+1:=by omega
        subst this;omega
       ·have:i=k+2:=by omega
        subst this;omega
      ·exact hb.2 i
     ·obtain ⟨_,_,q3,_⟩:=hp p hpp;omega
    ·rename_i h;refine ⟨List.nodup_nil,fun r=>⟨(fun h=>by cases h),?_⟩⟩;rintro ⟨⟨r',rfl⟩,hc⟩;have hg:=hc.me (gp 1 k) (by simp);have hrn:rn k=true:=by
      rcases hg with ⟨_,_,_,h1 | ⟨_,h1⟩⟩ | h1
      ·cases h1
      ·exact h1
      ·cases h1.2.2.2
     have need:∀i:Nat,(k:Int)+1=i∨(k:Int)+2=i→0<left.getD i 0:=fun i hi=>by
      have:=EY (l:=gp 1 k::r') (g:=gp 1 k) (by simp) i;rw [hc.ct,B9,if_pos (by omega)] at this;omega
     exact absurd ⟨hrn,need (k+1) (by omega),need (k+2) (by omega)⟩ h
   obtain ⟨LA,eA,nA,mA⟩:=A;obtain ⟨LB,eB,nB,mB⟩:=B;obtain ⟨LC,eC,nC,mC⟩:=C;rw [eA,eB,eC];refine ⟨?_,fun r=> ?_⟩
   ·rw [List.nodup_append,List.nodup_append];refine ⟨nA,⟨nB,nC,fun a ha b hb he=> ?_⟩,fun a ha b hb he=> ?_⟩
    ·obtain ⟨⟨r1,h1⟩,_⟩:=(mB a).1 ha;obtain ⟨⟨r2,h2⟩,_⟩:=(mC b).1 hb;rw [he,h2] at h1;injection h1 with h1
     injection h1 with h1
     omega
    ·obtain ⟨⟨r1,h1⟩,_⟩:=(mA a).1 ha;rcases List.mem_append.1 hb with hb | hb
     ·obtain ⟨⟨r2,h2⟩,_⟩:=(mB b).1 hb;rw [he,h2] at h1;injection h1 with h1
      injection h1 with h1
      omega
     ·obtain ⟨⟨r2,h2⟩,_⟩:=(mC b).1 hb;rw [he,h2] at h1;injection h1 with h1
      injection h1 with h1
      omega
   ·rw [List.mem_append,List.mem_append,mA,mB,mC];constructor
    ·rintro (h | h | h)<;>exact h.2
    ·intro hc;cases r with
     | nil =>
      have:=hc.ct k;simp only [B7] at this;omega
     | cons g r' =>
      have hg:=hc.me g (by simp);obtain ⟨y,hy,hcy⟩:=Mu (l:=g::r') (i:=k) (by rw [hc.ct];omega);have h1:=Yn hr (hc.me y hy) hcy;have h2:g.kd≤y.kd:=by
       rcases List.mem_cons.1 hy with rfl | hy
       ·exact Int.le_refl _
       ·have:=(List.pairwise_cons.1 hc.so).1 y hy;unfold GP at this;omega
      have h3:g.kd=(k:Int):=by
       rcases Int.lt_or_eq_of_le (Int.le_trans h2 h1) with h3 | h3
       ·have k1:=Vj hg;have k2:=EY (l:=g::r') (g:=g) (by simp) g.kd.toNat;have h4:0≤g.kd:=by rcases hg with h | h;exact h.2.1;exact h.2.1
        rw [hc.ct,Bf left _ (by omega)] at k2;omega
       ·exact h3
      have h5:g=gp 4 k∨g=gp 2 k∨g=gp 1 k:=by
       obtain ⟨w,q,o⟩:=g;simp only at h3;subst h3;rcases hg with ⟨h,_,_,h1 | ⟨h1,_⟩⟩ | ⟨h,_,_,h1⟩
       ·simp only at h h1;subst h h1;simp
       ·simp only at h h1;subst h h1;simp
       ·simp only at h h1;subst h h1;simp
      rcases h5 with h5 | h5 | h5
      ·exact .inl ⟨⟨r',by rw [h5]⟩,hc⟩
      ·exact .inr (.inl ⟨⟨r',by rw [h5]⟩,hc⟩)
      ·exact .inr (.inr ⟨⟨r',by rw [h5]⟩,hc⟩)
def CX (l:List Gp):List Gp:=l.foldl BN []
theorem MX:∀(l m:List Gp),(l.foldl BN m).Perm (l++m)∧(SG m→SG (l.foldl BN m))
 | [],m=>⟨.refl _,id⟩
 | g::l,m=>by
  obtain ⟨h1,h2⟩:=MX l (BN m g);exact ⟨h1.trans ((List.Perm.append_left l (Br m g)).trans List.perm_middle),fun h=>h2 (Ea g h)⟩
theorem BV (l:List Gp):(CX l).Perm l:=by
 have:=(MX l []).1;rw [List.append_nil] at this;exact this
theorem HV (l:List Gp):SG (CX l):=(MX l []).2 List.Pairwise.nil
theorem Rf {l m:List Gp} (hp:m.Perm l) (hm:SG m) (hc:Cl l):m=CX l:=L9 (hp.trans (BV l).symm) hm (HV l) fun g hg=>hc g (hp.subset hg)
theorem UY {a b:Gp} (h1:GP a b) (h2:GP b a) (ha:a.op=false) (hb:b.op=false):a=b:=by
 unfold GP at *;obtain ⟨w,q,o⟩:=a;obtain ⟨w',q',o'⟩:=b;simp only at *;rw [ha,hb];congr 1<;>omega
def VD (g:Gp):List Gp→List Gp
 | []=>[g]
 | x::l=>if x.kd<g.kd∨(x.kd=g.kd∧g.wh≤x.wh) then x::VD g l else g::x::l
theorem KS (g:Gp):∀l,(VD g l).Perm (g::l)
 | []=> .refl _
 | x::l=>by
  unfold VD;split
  ·exact ((KS g l).cons x).trans (.swap _ _ _)
  ·exact .refl _
theorem LM (g:Gp):∀l:List Gp,l.Pairwise GP→(VD g l).Pairwise GP
 | [],_=>List.pairwise_singleton _ _
 | x::l,h=>by
  unfold VD;have h' :=List.pairwise_cons.1 h;split
  ·rename_i hx;refine List.pairwise_cons.2 ⟨fun y hy=> ?_,LM g l h'.2⟩;rcases List.mem_cons.1 ((KS g l).subset hy) with rfl | hy
   ·exact hx
   ·exact h'.1 y hy
  ·rename_i hx;have hgx:GP g x:=by unfold GP;omega
   refine List.pairwise_cons.2 ⟨fun y hy=> ?_,h⟩;rcases List.mem_cons.1 hy with rfl | hy
   ·exact hgx
   ·exact Nl hgx (h'.1 y hy)
theorem RW:∀l:List Gp,∃m:List Gp,m.Perm l∧m.Pairwise GP
 | []=>⟨[], .refl _,List.Pairwise.nil⟩
 | g::l=>by
  obtain ⟨m,h1,h2⟩:=RW l;exact ⟨VD g m,(KS g m).trans (h1.cons g),LM g m h2⟩
theorem Wp {l m:List Gp} (h:l.Perm m) (hl:l.Pairwise GP) (hm:m.Pairwise GP) (hc:Cl l):l=m:=by
 refine Hx (r:=fun a b=>GP a b∧a.op=false∧b.op=false) (fun a b h1 h2=>UY h1.1 h2.1 h1.2.1 h1.2.2) h ?_ ?_
 ·exact hl.imp_of_mem fun {a b} ha hb k=>⟨k,hc a ha,hc b hb⟩
 ·exact hm.imp_of_mem fun {a b} ha hb k=>⟨k,hc a (h.symm.subset ha),hc b (h.symm.subset hb)⟩
theorem Wj (hr:C7 n rn) {f:Nat} {bag:List Int} (hb:Bg n bag) (hs:bag.sum<(f:Int)) {S:List (List Gp)} (hp:S.Perm ((Ef rn f bag none false).map CX)) (ho:S.Pairwise fun a b=>BL a b≤0):S=Eg rn f bag:=by
 obtain ⟨c1,c2⟩:=W6 hr f bag none false hb (fun p h=>by cases h) hs;obtain ⟨r1,r2⟩:=Fb hr hb hs;have cl:∀r∈Ef rn f bag none false,Cl r:=fun r h g hg=>((c2 r).1 h).me g hg |>.elim (·.1) (·.1)
 have hn:((Ef rn f bag none false).map CX).Nodup:=by
  refine List.pairwise_map.2 (c1.imp_of_mem fun {a b} ha hb hab he=>hab ?_);have:a.Perm b:=(BV a).symm.trans (he ▸ BV b);exact Wp this ((c2 a).1 ha).so ((c2 b).1 hb).so (cl a ha)
 have hm:∀x,x∈S↔Hu n rn bag x:=fun x=>by
  rw [hp.mem_iff,List.mem_map];constructor
  ·rintro ⟨r,h,rfl⟩;have hc:=(c2 r).1 h;exact ⟨HV r,fun g hg=>hc.me g ((BV r).subset hg),by rw [(BV r).countP_eq,hc.pr];rfl,fun i=>by rw [EK (BV r),hc.ct]⟩
  ·intro h;obtain ⟨m,h1,h2⟩:=RW x;refine ⟨m,(c2 m).2 ⟨h2,(fun p h=>by cases h),fun g hg=>h.me g (h1.subset hg),by rw [h1.countP_eq,h.pr];simp,fun i=>by rw [EK h1,h.ct]⟩,?_⟩;exact (Rf h1.symm h.sg fun g hg=>h.cl g (h1.subset hg)).symm
 refine PF ?_ r1 fun x=>(hm x).trans (r2 x).symm
 have hn' :S.Nodup:=hp.symm.nodup hn;exact (ho.and hn').imp_of_mem fun {a b} ha hb k=>by
  rcases Int.lt_or_eq_of_le k.1 with h | h
  ·exact h
  ·exact absurd (MD h ((hm a).1 ha).cl ((hm b).1 hb).cl) k.2
end
end Go.Proofs.YthblfhgofopcaaaGreat
