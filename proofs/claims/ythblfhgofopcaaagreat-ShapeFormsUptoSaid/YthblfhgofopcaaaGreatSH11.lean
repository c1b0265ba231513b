/-
  Parts of the proof: VmV, VmX, VmY, VmZ, VmW.
-/
import Derived.Test.YthblfhgofopcaaaGreatSH10
import Derived.Orders
set_option linter.all false
namespace Go.Proofs.YthblfhgofopcaaaGreat
open Go.RowKit
variable [DM]
section
variable {P:Program} {T:Dj} {c0 c:Cx} {h0:HF} {nt base:Nat} {all:List Oper} {ms:List Nat}
theorem aH {pre rest:List Nat} {j k:Nat} {ok:Oper} (h:Hg all ms pre rest=true) (hj:j∈rest) (hk:k∈pre) (hok:all[k]? =some ok) (he:Ft ok.op=true):Lv ms k j=true:=by
 induction rest generalizing pre with
 | nil=>cases hj
 | cons i rest ih =>
  simp only [Hg] at h;split at h
  ·cases h
  ·simp only [Bool.and_eq_true] at h;rcases List.mem_cons.1 hj with rfl | hj
   ·have:=List.all_eq_true.1 h.1.2 k hk;unfold Kl at this;rw [hok] at this;simp only [Bool.and_eq_true,Bool.or_eq_true,Bool.not_eq_true'] at this;exact this.1.1.resolve_left (by rw [he];exact fun h=>by cases h)
   ·exact ih h.2 hj (List.mem_cons_of_mem _ hk)
theorem OG {listed:Array Bool} (hsz:listed.size=all.length) (hr:Region.ready .any all.toArray listed=[]):∀(pre rest:List Nat),Hg all ms pre rest=true→(∀i∈pre,listed.getD i false=true)→∀j∈rest,listed.getD j false=true
 | _,[],_,_,j,hj=>by cases hj
 | pre,k::rest,h,hp,j,hj=>by
  simp only [Hg] at h;split at h
  ·cases h
  ·rename_i o ho;simp only [Bool.and_eq_true] at h;have hk:listed.getD k false=true:=by
    have hlt:k<listed.size:=by rw [hsz];exact (List.getElem?_eq_some_iff.1 ho).1
    have e:∀d,listed.getD k d=listed[k]:=fun d=>by simp [Array.getD_eq_getD_getElem?,hlt]
    cases hb:listed[k] with
    | true=>rw [e];exact hb
    | false =>
     have:k∈Region.ready .any all.toArray listed:=mem_ready.2 ⟨by rw [e];exact hb,o,by rw [List.getElem?_toArray];exact ho,fun e' he' hbd=>by
      have:=List.all_eq_true.1 h.1.1.2 e' (by simpa using he')
      rw [hbd] at this
      simp only [Bool.not_true,Bool.false_or,List.contains_eq_mem,decide_eq_true_eq] at this
      exact hp _ this⟩
     rw [hr] at this;cases this
   rcases List.mem_cons.1 hj with rfl | hj
   ·exact hk
   ·exact OG hsz hr (k::pre) rest h.2 (fun i hi=>(List.mem_cons.1 hi).elim (fun e=>e ▸ hk) (hp i)) j hj
theorem RI (listed:Array Bool) {j:Nat} (hj:j<listed.size):(fun i=>(listed.setIfInBounds j true).getD i false)=fun i=>listed.getD i false || i==j:=by
 funext i;by_cases h:i=j
 ·subst h;simp [hj]
 ·have:(listed.setIfInBounds j true).getD i false=listed.getD i false:=by
   simp [Array.getD_eq_getD_getElem?,Array.getElem?_setIfInBounds_ne (Ne.symm h)]
  rw [this];simp [h]
theorem XI {p p' :Nat→Bool} {j:Nat} (h1:∀i,p' i=true→p i=true) (hj:p j=true) (hj' :p' j=false):∀l:List Nat,j∈l→l.countP p' <l.countP p
 | [],h=>by cases h
 | k::l,h=>by
  have le:l.countP p' ≤l.countP p:=List.countP_mono_left fun i _=>h1 i
  rw [List.countP_cons,List.countP_cons];rcases List.mem_cons.1 h with rfl | h
  ·rw [hj,hj'];simp;omega
  ·have:=XI h1 hj hj' l h;have:(if p' k=true then 1 else 0)≤(if p k=true then 1 else 0):=by
    by_cases hk:p' k=true
    ·rw [if_pos hk,if_pos (h1 k hk)];exact Nat.le_refl _
    ·rw [if_neg hk];exact Nat.zero_le _
   omega
theorem wB (hT:CQ P T) (hn:c0.n0=c0.w.heap.size) {L:Nat→Bool} {j:Nat} {K:St→Prop} (hj:∀i,Lv ms i j=true→L i=true) (hjL:L j=false) {Q:Exit→Act→World→Prop} {N:Act→World→Prop}
  (hN:∀pre rest F fT fW tm hp c' a',Jb c0 h0 nt T all ms base (fun i=>L i || i==j) pre F fT fW (lk tm .any) (lk hp .nil) c' a' →Hg all ms pre rest=true→AD P T nt all ms base rest tm hp fT fW K→(∀i<all.length,i∈pre∨i∈rest)→N a' c'.w) :
  ∀(rest pre:List Nat) (F:List Pe) (fT:List (Nat×List Nat)) (fW:List (Nat×Nat)) (tm:List (Nat×AV)) (hp:Hl) (c:Cx) (a:Act),Jb c0 h0 nt T all ms base L pre F fT fW (lk tm .any) (lk hp .nil) c a→Hg all ms pre rest=true→AD P T nt all ms base rest tm hp fT fW K→
   (∀i<all.length,i∈pre∨i∈rest)→(j∈pre∨j∈rest)→wpOp P all.toArray Q j N a c.w:=by
 intro rest;induction rest with
 | nil =>
  intro pre F fT fW tm hp c a I ho hA hc hjm;have hjp:j∈pre:=hjm.resolve_right (List.not_mem_nil);have:∃e∈F,e.i=j:=by
   apply Classical.byContradiction;intro hno;have:=(I.lst j).2 ⟨hjp,fun e he hi=>hno ⟨e,he,hi⟩⟩;rw [hjL] at this;cases this
  obtain ⟨e,he,rfl⟩:=this;exact I.pend hT he hj fun c' a' I' =>hN _ _ _ _ _ tm hp c' a' I' ho hA hc
 | cons k rest ih =>
  intro pre F fT fW tm hp c a I ho hA hc hjm;by_cases hjp:j∈pre
  ·have:∃e∈F,e.i=j:=by
    apply Classical.byContradiction;intro hno;have:=(I.lst j).2 ⟨hjp,fun e he hi=>hno ⟨e,he,hi⟩⟩;rw [hjL] at this;cases this
   obtain ⟨e,he,rfl⟩:=this;exact I.pend hT he hj fun c' a' I' =>hN _ _ _ _ _ tm hp c' a' I' ho hA hc
  have hjr:j∈k::rest:=hjm.resolve_left hjp;have ho' :=ho;simp only [Hg] at ho';obtain ⟨o,hko,tm',htm,hS⟩:=ZC hA;rw [hko] at ho';simp only [Bool.and_eq_true,Bool.not_eq_true'] at ho';obtain ⟨⟨⟨⟨o1,o2⟩,_⟩,o3⟩,o4⟩:=ho';have hc' :∀i<all.length,i∈k::pre∨i∈rest:=fun i hi=>by
   rcases hc i hi with h | h
   ·exact .inl (List.mem_cons_of_mem _ h)
   ·rcases List.mem_cons.1 h with rfl | h
    ·exact .inl List.mem_cons_self
    ·exact .inr h
  have hev:Dd tm' =N1 (lk tm .any):=by rw [SX,htm]
  have hpt:∀x,lk (Bz tm' o.dst x) .any=E1 (lk tm .any) o.dst x:=fun x=>by rw [Zp,htm]
  by_cases he:Ft o.op=true
  ·have hkj:k=j:=by
    apply Classical.byContradiction;intro hne;have hjr' :j∈rest:=(List.mem_cons.1 hjr).resolve_left fun h=>hne h.symm
    have:=(I.lst k).1 (hj k (aH o4 hjr' List.mem_cons_self hko he));have h1:k ∉ pre:=by simpa using o1
    exact h1 this.1
   subst hkj;refine I.eff hT hn hj hko o1 o3 ?_;rcases hS with ⟨hw,hS⟩ | ⟨hw,hd,_,hS⟩
   ·split at hS
    ·exact hS.elim
    ·rename_i p x us hop;rw [he] at hS;obtain ⟨d1,d2,d3,d4,d5,d6⟩:=hS;rw [hev] at hop d4;exact .inl ⟨p,x,us,hw,hop,d1,d2,d3,d4,d5,fun c' a' I' =>hN _ _ _ _ _ (Bz tm' o.dst x) (Eo us hp) c' a' (by rw [hpt,Sp];exact I') o4 d6 hc'⟩
    ·rename_i fn xs hop;obtain ⟨d1,d4,ρ,bm,R,e1,e2,e3,e4,e5,e6⟩:=hS;rw [hev] at hop d4;exact .inr (.inl ⟨fn,xs,hw,hop,d1,d4,hp,rfl,ρ,bm,R,e1,e2,e3,e4,e5,fun x hl hR=>⟨(e6 x hl hR).1,(e6 x hl hR).2.1,(e6 x hl hR).2.2.1,fun c' a' I' =>hN _ _ _ _ _ (Bz tm' o.dst (x.ren (rn (base+16*k) ρ))) (HT (rn (base+16*k) ρ) hl hp) c' a' (by rw [hpt];exact I') o4 (e6 x hl hR).2.2.2 hc'⟩⟩)
   ·exact .inr (.inr ⟨hw,hd,fun c' a' I' =>hN _ _ _ _ _ (Bz tm' o.dst (.v undef)) hp c' a' (by rw [hpt];exact I') o4 hS hc'⟩)
  ·have he' :Ft o.op=false:=by simpa using he
   have go:∀(x:AV) (us:List (Nat×Ob)) (ts:List Nat) fT' fW',Jb c0 h0 nt T all ms base L (k::pre) (⟨k,o,x,us,ts⟩::F) fT' fW' (E1 (lk tm .any) o.dst x) (Bc us (lk hp .nil)) c a→AD P T nt all ms base rest (Bz tm' o.dst x) (Eo us hp) fT' fW' K→wpOp P all.toArray Q j N a c.w:=fun x us ts fT' fW' I' hA' =>
    ih (k::pre) _ fT' fW' (Bz tm' o.dst x) (Eo us hp) c a (by rw [hpt,Sp];exact I') o4 hA' hc' (by
     rcases List.mem_cons.1 hjr with rfl | h
     ·exact .inl List.mem_cons_self
     ·exact .inr h)
   rcases hS with ⟨hw,hS⟩ | ⟨hw,hd,hfr,hS⟩
   ·split at hS
    ·exact hS.elim
    ·rename_i p x us hop;rw [he'] at hS;obtain ⟨d1,d2,d3,d4,d5,d6⟩:=hS;rw [hev] at hop d4 d5 d6;refine go x us (BE (N1 (lk tm .any)) (Bx o.op)) _ _ (I.look hj hjr hko o1 o2 o3 he' d1 (.inl ⟨hw,⟨p,hop,d2⟩,fun X hX r hr=>NQ hX hr,d3,d4,d5⟩) _ _ ?_ ?_ ?_ ?_) d6
     ·intro q hq;unfold Kg;split
      ·exact hq
      ·exact List.mem_cons_of_mem _ hq
     ·exact fun q hq=>List.mem_append_right _ hq
     ·unfold Kg;split
      ·rename_i h;exact .inl h
      ·exact .inr List.mem_cons_self
     ·exact fun u hu=>List.mem_append_left _ (List.mem_map.2 ⟨u.1,List.mem_map_of_mem hu,rfl⟩)
    ·rename_i fn xs hop;have:=Pv (T:=T) (g:=Dd tm') (h:=lk hp .nil) (nm:=base+16*k) he';rw [hop] at this;exact this.elim
   ·exact go (.v undef) [] [] fT fW (I.look hj hjr hko o1 o2 o3 he' hd (.inr ⟨hw,rfl,rfl,rfl,hfr⟩) _ _ (fun _ h=>h) (fun _ h=>h) (.inl rfl) (fun u hu=>by cases hu)) hS
theorem VK (hT:CQ P T) (hn:c0.n0=c0.w.heap.size) {ord:List Nat} (hd:KY all ord ms=true) {Q:Exit→St→Prop} :
  ∀(fuel:Nat) (listed:Array Bool) (pre rest:List Nat) (F:List Pe) (fT:List (Nat×List Nat)) (fW:List (Nat×Nat)) (tm:List (Nat×AV)) (hp:Hl) (c:Cx) (a:Act),listed.size=all.length→(List.range all.length).countP (fun i=> !listed.getD i false)≤fuel→
   Jb c0 h0 nt T all ms base (fun i=>listed.getD i false) pre F fT fW (lk tm .any) (lk hp .nil) c a→Hg all ms pre rest=true→AD P T nt all ms base rest tm hp fT fW (Q .normal)→(∀i<all.length,i∈pre∨i∈rest)→
   wpAny P .any all.toArray (VG c0 h0 nt Q) fuel listed a c.w:=by
 unfold KY at hd;simp only [Bool.and_eq_true] at hd;obtain ⟨⟨hd1,hd2⟩,hd3⟩:=hd;have fin:∀(listed:Array Bool) (pre rest:List Nat) (F:List Pe) (fT:List (Nat×List Nat)) (fW:List (Nat×Nat)) (tm:List (Nat×AV)) (hp:Hl) (c:Cx) (a:Act),listed.size=all.length→
   Jb c0 h0 nt T all ms base (fun i=>listed.getD i false) pre F fT fW (lk tm .any) (lk hp .nil) c a→Hg all ms pre rest=true→AD P T nt all ms base rest tm hp fT fW (Q .normal)→Region.ready .any all.toArray listed=[]→VG c0 h0 nt Q .normal a c.w:=by
  intro listed pre rest F fT fW tm hp c a hsz I ho hA hr;have hall:∀j∈ord,listed.getD j false=true:=OG hsz hr [] ord hd1 (fun i hi=>by cases hi);have hin:∀j,j<all.length→listed.getD j false=true:=fun j hj=>hall j (by simpa using List.all_eq_true.1 hd2 j (List.mem_range.2 hj))
  have hF:F=[]:=by
   cases F with
   | nil=>rfl
   | cons e F =>
    exfalso;have:=hin e.i (List.getElem?_eq_some_iff.1 (I.pr e List.mem_cons_self).at_).1;exact ((I.lst _).1 this).2 e List.mem_cons_self rfl
  have hrest:rest=[]:=by
   cases rest with
   | nil=>rfl
   | cons k rest =>
    exfalso;simp only [Hg] at ho;split at ho
    ·cases ho
    ·rename_i o hko;simp only [Bool.and_eq_true,Bool.not_eq_true'] at ho;have h1:k ∉ pre:=by simpa using ho.1.1.1.1
     exact h1 ((I.lst k).1 (hin k (List.getElem?_eq_some_iff.1 hko).1)).1
  subst hF hrest;unfold AD at hA;refine ⟨_,c,rfl,hA,Hq.to ?_⟩;have:=I.rel;have e1:mT [] (lk tm .any)=lk tm .any:=by funext t;exact Eb (by rintro ⟨e,he,_⟩;cases he)
  have e2:mH [] (lk hp .nil)=lk hp .nil:=by funext t;exact DF (by rintro ⟨e,he,_⟩;cases he)
  rw [e1,e2] at this;exact this
 intro fuel;induction fuel with
 | zero =>
  intro listed pre rest F fT fW tm hp c a hsz hcnt I ho hA hc;have hr:Region.ready .any all.toArray listed=[]:=by
   cases hr:Region.ready .any all.toArray listed with
   | nil=>rfl
   | cons j l =>
    exfalso;have hj:j∈Region.ready .any all.toArray listed:=by rw [hr];exact List.mem_cons_self
    obtain ⟨h1,o,h2,_⟩:=mem_ready.1 hj;rw [List.getElem?_toArray] at h2;have hlt:=(List.getElem?_eq_some_iff.1 h2).1;have h3:listed.getD j false=false:=by
     have:j<listed.size:=by rw [hsz];exact hlt
     simpa [Array.getD_eq_getD_getElem?,this] using h1
    have:0<(List.range all.length).countP (fun i=> !listed.getD i false):=List.countP_pos_iff.2 ⟨j,List.mem_range.2 hlt,by rw [h3];rfl⟩;omega
  exact ⟨hr,fin listed pre rest F fT fW tm hp c a hsz I ho hA hr⟩
 | succ fuel ih =>
  intro listed pre rest F fT fW tm hp c a hsz hcnt I ho hA hc;refine ⟨fun hr=>fin listed pre rest F fT fW tm hp c a hsz I ho hA hr,fun j hj=> ?_⟩;obtain ⟨h1,o,h2,h4⟩:=mem_ready.1 hj;rw [List.getElem?_toArray] at h2;have hlt:=(List.getElem?_eq_some_iff.1 h2).1;have hlt' :j<listed.size:=by rw [hsz];exact hlt
  have h3:listed.getD j false=false:=by simpa [Array.getD_eq_getD_getElem?,hlt'] using h1
  refine wB hT hn (L:=fun i=>listed.getD i false) (K:=Q .normal) (fun i hi=> ?_) h3 (fun pre rest F fT fW tm hp c' a' I' ho' hA' hc' => ?_) rest pre F fT fW tm hp c a I ho hA hc (hc j hlt)
  ·have:=cS hd3 h2;unfold Lv at hi;rw [this] at hi;obtain ⟨e,he,hb,h5⟩:=aR hi;have h6:=h4 e (by simpa using he) hb;rcases h5 with rfl | h5
   ·exact h6
   ·exact I.cl _ h6 i h5
  ·refine ih (listed.setIfInBounds j true) pre rest F fT fW tm hp c' a' (by simp [hsz]) ?_ (by rw [RI listed hlt'];exact I') ho' hA' hc';have e:=RI listed hlt';have:(List.range all.length).countP (fun i=> !(listed.setIfInBounds j true).getD i false)<(List.range all.length).countP (fun i=> !listed.getD i false):=by
    refine XI (j:=j) (fun i hi=> ?_) (by rw [h3];rfl) ?_ _ (List.mem_range.2 hlt)
    ·have:(listed.setIfInBounds j true).getD i false=(listed.getD i false || i==j):=congrFun e i;rw [this] at hi;simp only [Bool.not_or,Bool.and_eq_true] at hi;exact hi.1
    ·have:(listed.setIfInBounds j true).getD j false=(listed.getD j false || j==j):=congrFun e j;rw [this];simp
   omega
def DD (P:Program) (T:Dj) (nt:Nat):List Oper→St→(St→Prop)→Prop:=fun ops σ K=>∃ord ms,KY ops ord ms=true∧AD P T nt ops ms σ.nx ord σ.tm σ.hp [] [] K
theorem Xc (hT:CQ P T) (hm:P.follows .mixedOrders=true) (nt:Nat):Nk P nt (DD P T nt):=by
 rintro c0 h0 id ops Q σ c a hn ⟨ord,ms,hd,hA⟩ r;refine wp_region_any hm ?_;have g:Aw c.w { c.w with drawn:=c.w.drawn+1 }:=⟨rfl,rfl,rfl,Nat.le_refl _,fun _ _=>rfl⟩;have hd' :=hd;unfold KY at hd';simp only [Bool.and_eq_true] at hd';have:=VK (h0:=h0) (nt:=nt) (base:=σ.nx) hT hn hd (Q:=Q) ops.size (Array.replicate ops.size false) [] ord [] [] [] σ.tm σ.hp { c with w:={ c.w with drawn:=c.w.drawn+1 } } a (by simp) ?_ ?_ hd'.1.1 hA ?_
 ·simpa using this
 ·refine Nat.le_trans (List.countP_le_length) ?_;simp
 ·have L0:∀i,(Array.replicate ops.size false).getD i false=false:=fun i=>by
   simp only [Array.getD_eq_getD_getElem?,Array.getElem?_replicate];split<;>rfl
  refine ⟨fun i=> ?_,fun j hj=> ?_,(fun e he=>by cases he),(fun e he=>by cases he),(fun e he=>by cases he),(fun e he=>by cases he),(fun e he=>by cases he),(fun e he=>by cases he),?_⟩
  ·rw [L0];constructor
   ·intro h;cases h
   ·rintro ⟨h,_⟩;cases h
  ·rw [L0] at hj;cases hj
  ·have e1:mT [] (lk σ.tm .any)=lk σ.tm .any:=by funext t;exact Eb (by rintro ⟨e,he,_⟩;cases he)
   have e2:mH [] (lk σ.hp .nil)=lk σ.hp .nil:=by funext t;exact DF (by rintro ⟨e,he,_⟩;cases he)
   rw [e1,e2];exact ⟨r.kp.trans (Bj.grow g (.inr (Nat.le_succ _))),r.hp.keep_grow g (.inr (Nat.le_succ _)),r.fr.sz,r.fr.df,fun t=>(r.fr.tm t).ext (Bj.grow g (.inr (Nat.le_succ _))).ext⟩
 ·exact fun i hi=> .inr (by simpa using List.all_eq_true.1 hd'.1.2 i (List.mem_range.2 hi))
end
end Go.Proofs.YthblfhgofopcaaaGreat

namespace Go.Proofs.YthblfhgofopcaaaGreat
open Go.RowKit
variable [DM]
def s5:List (Nat×List Nat×List Nat)→Nat→List Nat×List Nat
 | [],_=>([],[])
 | p::l,i=>if p.1=i then p.2 else s5 l i
section
variable {P:Program} {T:Dj} {nt ne:Nat} {Q:Exit→St→Prop}
theorem Za (tb:List (Nat×List Nat×List Nat)) {id:Nat} {l:List Oper} {nx:Nat} {tm:List (Nat×AV)} {hp:Hl} {ord ms:List Nat} (hl:s5 tb id=(ord,ms)) (hok:KY l ord ms=true) (h:AD P T nt l ms nx ord tm hp [] [] (Q .normal)):AW P T nt ne (DD P T nt) (.region id l.toArray true) Q ⟨nx,tm,hp⟩ :=
 ⟨ord,ms,hok,h⟩
theorem Cn.says {f:Nat} {xs ys:List AV} {res:AV} {hp:Hl} {nm:Nat} {C:List Nat→Prop} {K:AV→Hl→Prop} (hC:AM P f ys res) (hy:passL (fun _=>none) (lk hp .nil) xs=ys) (hc:C []) (hb:res.allT=true∨nobL (fun _=>none) xs=true) (hr:∀q,res.ren q=res) (h:K res hp):Cn P f xs hp nm C K:=by
 have e:E7 0 []=fun _=>none:=by funext r;rfl
 subst hy;refine ⟨[],res.allT,_,hc,by rw [e];exact hC,List.nodup_nil,(fun r h=>by cases h),?_,?_⟩
 ·rw [e];rcases hb with hb | hb
  ·exact .inl hb
  ·exact .inr ⟨hb,(fun r h=>by cases h)⟩
 ·rintro x hl ⟨rfl,rfl⟩;exact ⟨⟨List.nodup_nil,(fun p h=>by cases h)⟩,(fun hb=>⟨hb,(fun p h=>by cases h)⟩),(fun p h=>by cases h),by rw [hr];exact h⟩
end
def jS (x:Option Oper) (k:Oper→Prop):Prop:=match x with
 | none=>False
 | some o=>k o
def UM (b:Bool) (k1 k2:Prop):Prop:=match b with
 | true=>k1
 | false=>k2
@[go_sem] theorem fF (o:Oper) (k:Oper→Prop):jS (some o) k=k o:=rfl
@[go_sem] theorem e8 (k1 k2:Prop):UM true k1 k2=k1:=rfl
@[go_sem] theorem dS (k1 k2:Prop):UM false k1 k2=k2:=rfl
def gG (P:Program) (T:Dj) (nt:Nat) (all:List Oper) (ms:List Nat) (base j:Nat) (o:Oper) (tm:List (Nat×AV)) (hp:Hl) (fT:List (Nat×List Nat)) (fW:List (Nat×Nat)) (J:List (Nat×AV)→Hl→List (Nat×List Nat)→List (Nat×Nat)→Prop):Prop :=
 Ge (Nv all tm o.guard) (fun tm' =>Mn (Du T (Dd tm') (lk hp .nil) (base+16*j) o.op)
  (fun p x us=>Cg nt o.dst∧p∧lk hp .nil (base+16*j)= .nil∧FC ms fW j (BE (Dd tm') (Bx o.op))=true∧
   UM (Ft o.op) (Ka ms fT fW j (us.map (·.1))=true∧J (Bz tm' o.dst x) (Eo us hp) fT fW)
    ((us.map (·.1)).all (MZ fT (BE (Dd tm') (Bx o.op)))=true∧J (Bz tm' o.dst x) (Eo us hp) (Kg j (BE (Dd tm') (Bx o.op)) fT) (PQ j (us.map (·.1)) fW)))
  (fun f xs=>Cg nt o.dst∧FC ms fW j (BE (Dd tm') (Bx o.op))=true∧Cn P f xs hp (base+16*j) (fun ρ=>Lt (base+16*j) ms fT fW j ρ xs (ρ.map (lk hp .nil))=true) fun x hp' =>J (Bz tm' o.dst x) hp' fT fW))
  (fun tm' =>Cg nt o.dst∧lk hp .nil (base+16*j)= .nil∧J (Bz tm' o.dst (.v undef)) hp fT fW) tm
theorem Te (P:Program) (T:Dj) (nt:Nat) (all:List Oper) (ms:List Nat) (base j:Nat) (os:List Nat) (tm:List (Nat×AV)) (hp:Hl) (fT:List (Nat×List Nat)) (fW:List (Nat×Nat)) (K:St→Prop) (o:Oper) (ho:all[j]? =some o):AD P T nt all ms base (j::os) tm hp fT fW K =
  gG P T nt all ms base j o tm hp fT fW fun tm hp fT fW=>AD P T nt all ms base os tm hp fT fW K:=by
 rw [AD,ho];unfold gG;dsimp only;generalize Nv all tm o.guard=g;cases g with
 | ask b t want =>
  cases b<;>cases want
  ·dsimp only [Ge];generalize Du T (Dd (Ci tm t (.v (.bool false)))) (lk hp .nil) (base+16*j) o.op=x;generalize Ft o.op=e;cases x<;>cases e<;>rfl
  ·rfl
  ·rfl
  ·dsimp only [Ge];generalize Du T (Dd (Ci tm t (.v (.bool true)))) (lk hp .nil) (base+16*j) o.op=x;generalize Ft o.op=e;cases x<;>cases e<;>rfl
 | run =>
  dsimp only [Ge];generalize Du T (Dd tm) (lk hp .nil) (base+16*j) o.op=x;generalize Ft o.op=e;cases x<;>cases e<;>rfl
 | _=>rfl
theorem SM {P:Program} {T:Dj} {nt:Nat} {all:List Oper} {ms:List Nat} {base j:Nat} {os:List Nat} {tm:List (Nat×AV)} {hp:Hl} {fT:List (Nat×List Nat)} {fW:List (Nat×Nat)} {K:St→Prop} {o:Oper} (ho:all[j]? =some o)
  (h:∀J:List (Nat×AV)→Hl→List (Nat×List Nat)→List (Nat×Nat)→Prop,(∀tm hp fT fW,AD P T nt all ms base os tm hp fT fW K→J tm hp fT fW)→gG P T nt all ms base j o tm hp fT fW J):AD P T nt all ms base (j::os) tm hp fT fW K:=by
 rw [Te P T nt all ms base j os tm hp fT fW K o ho];exact h _ fun _ _ _ _ h=>h
theorem eQ {P:Program} {T:Dj} {nt:Nat} {all:List Oper} {ms:List Nat} {base:Nat} {tm:List (Nat×AV)} {hp:Hl} {fT:List (Nat×List Nat)} {fW:List (Nat×Nat)} {K:St→Prop} (h:K ⟨base+16*all.length,tm,hp⟩):AD P T nt all ms base [] tm hp fT fW K:=h
attribute [go_sem] gG
attribute [go_sem] FC MZ Ka Lt Kg PQ hit BE Dz PR Bx Ft Lv AV.away awayL UQ
end Go.Proofs.YthblfhgofopcaaaGreat

namespace Go.Proofs.YthblfhgofopcaaaGreat
open Go.RowKit
section DMs
variable [DM]
section
variable {α:Type} {e e' :α→AV} {inv:Nat→Option Nat} {h:HF} {F:Nat→Nat→Nat→Nat→AV} {q:Nat→Nat}
theorem IU (he:∀x,(e x).pass inv h=e' x) (l:List α):passL inv h (l.map e)=l.map e' :=by
 induction l with
 | nil=>rfl
 | cons z zs ih=>simp only [List.map_cons,passL,ih,he]
theorem Ju (he:∀x,(e x).fin inv F=e' x) (l:List α):finL inv F (l.map e)=l.map e' :=by
 induction l with
 | nil=>rfl
 | cons z zs ih=>simp only [List.map_cons,finL,ih,he]
theorem M0 (he:∀x,(e x).low=e' x) (l:List α):lowL (l.map e)=l.map e' :=by
 induction l with
 | nil=>rfl
 | cons z zs ih=>simp only [List.map_cons,lowL,ih,he]
theorem Jl (he:∀x,(e x).ren q=e' x) (l:List α):renL q (l.map e)=l.map e' :=by
 induction l with
 | nil=>rfl
 | cons z zs ih=>simp only [List.map_cons,renL,ih,he]
theorem Mv (he:∀x,(e x).nob inv=true) (l:List α):nobL inv (l.map e)=true:=by
 induction l with
 | nil=>rfl
 | cons z zs ih=>simp only [List.map_cons,nobL,ih,he];rfl
theorem VX (he:∀x,(e x).allT=true) (l:List α):allTL (l.map e)=true:=by
 induction l with
 | nil=>rfl
 | cons z zs ih=>simp only [List.map_cons,allTL,ih,he];rfl
theorem Gn {r:Nat} (he:∀x,(e x).away r=true) (l:List α):awayL r (l.map e)=true:=by
 induction l with
 | nil=>rfl
 | cons z zs ih=>simp only [List.map_cons,awayL,ih,he];rfl
end
theorem L7 {α:Type} {e:α→AV} (he:∀x,∀v∈(e x).cs,v.one=true) (l:List α):(∀u∈l.map e,∀v∈u.cs,v.one=true)=True:=by
 simp only [List.mem_map,forall_exists_index,and_imp,forall_apply_eq_imp_iff₂,eq_iff_iff,iff_true];exact fun x _=>he x
@[go_sem] theorem L1 (r:Nat) (zs:List Int):awayL r (zs.map I)=true:=Gn (fun _=>rfl) zs
@[go_sem] theorem vQ (l:List Int):(∀u∈l.map I,∀v∈u.cs,v.one=true)=True:=L7 (fun x v hv=>by simp [AV.cs] at hv;subst hv;rfl) l
end DMs
theorem LQ {P:Program} {f:Nat} {ys:List AV} {x:Value} (hE:qX P f) (h:∀(c:Cx) (vals:Array Value),QX c (fun _=> .nil) ys vals→Calls P f vals c.w fun e w' =>e= .returned x∧Aw c.w w'):AM P f ys (.v x):=by
 refine ⟨hE,fun c vals _ _ hx=>(h c vals hx).mono ?_⟩;rintro e w' ⟨rfl,g⟩;exact ⟨x, .v x,[],{ c with w:=w' },rfl,rfl,⟨rfl,rfl⟩,Bj.grow g (.inl rfl),⟨(fun r g sz es hr=>by cases hr),(fun r g sz es hr=>by cases hr),(fun r r1 g g1 sz sz1 es es1 hr=>by cases hr)⟩, .v x⟩
variable [DM]
def Bw:AV:= .v (.slice none 0 0)
section
variable {nt ne:Nat} {σ:St}
theorem Nh {c:Cx} {h:HF} (hh:BH c h) {nm:Nat} (hn:h nm= .nil) (gn sz:Nat):∃c' :Cx,c'.w=c.w∧Bj c h c' (Bc [(nm, .arr gn sz [])] h)∧BH c' (Bc [(nm, .arr gn sz [])] h)∧AS c' (Bc [(nm, .arr gn sz [])] h) (.rsl nm gn 0 0) (.slice none 0 0):=by
 have e1:Bc [(nm, .arr gn sz [])] h nm= .arr gn sz []:=by simp [Bc]
 have e2:∀r,r≠nm→Bc [(nm, .arr gn sz [])] h r=h r:=fun r hr=>by simp [Bc,hr]
 have hne:∀r ob,h r=ob→(match ob with | .nil=>False | _=>True)→r≠nm:=fun r ob h1 h2 h3=>by
  subst h3;rw [hn] at h1;subst h1;exact h2
 let c' :Cx:={ c with rl:=fun r=>if r=nm then false else c.rl r };have r1:c'.rl nm=false:=by simp [c']
 have r2:∀r,r≠nm→c'.rl r=c.rl r:=fun r hr=>by simp [c',hr]
 have K:Bj c h c' (Bc [(nm, .arr gn sz [])] h):={
  dr:= .inr (Nat.le_refl _)
  os:=rfl
  tape:=rfl
  output:=rfl
  size:=Nat.le_refl _
  blk:=fun _ _ _=>rfl
  dd:=fun r hr=>by rw [e2 r (hne r _ hr trivial)];exact hr
  ar:=fun r g1 s1 es1 hr=>by
   have hq:=hne r _ hr trivial
   exact .inr ⟨g1,es1,by rw [e2 r hq];exact hr,Nat.le_refl _,fun _=>⟨rfl,r2 r hq,fun _ cs t hcs=>⟨cs,hcs,rfl⟩⟩⟩
  fr:=fun r g1 s1 es1 hr hl=>by
   by_cases hq:r=nm
   ·subst hq;rw [r1] at hl;cases hl
   ·exact .inr ⟨g1,es1,by rw [←e2 r hq];exact hr,by rw [←r2 r hq];exact hl,rfl⟩
  okT:=rfl
  okF:=rfl
  n0:=rfl }
 refine ⟨c',rfl,K,⟨?_,?_,?_⟩, .rsl _ _ _ _ _ rfl ?_⟩
 ·intro r g1 s1 es1 hr hl;by_cases hq:r=nm
  ·subst hq;rw [r1] at hl;cases hl
  ·rw [e2 r hq] at hr;rw [r2 r hq] at hl;obtain ⟨cs,t,h1,h2,h3,h4⟩:=hh.ar r g1 s1 es1 hr hl;exact ⟨cs,t,h1,h2,h3,fun i e j x he hj=>by
    obtain ⟨y,hy,hv⟩:=h4 i e j x he hj
    exact ⟨y,hy,hv.ext K.ext⟩⟩
 ·intro r g1 s1 es1 hr hl;by_cases hq:r=nm
  ·subst hq;rw [e1] at hr;injection hr with _ _ h3;exact h3.symm
  ·rw [e2 r hq] at hr;rw [r2 r hq] at hl;exact hh.em r g1 s1 es1 hr hl
 ·intro r r' g1 g2 s1 s2 es1 es2 hr hr' hl hl' hb;by_cases hq:r=nm
  ·subst hq;rw [r1] at hl;cases hl
  by_cases hq' :r' =nm
  ·subst hq';rw [r1] at hl';cases hl'
  rw [e2 r hq] at hr;rw [e2 r' hq'] at hr';rw [r2 r hq] at hl;rw [r2 r' hq'] at hl';exact hh.inj r r' g1 g2 s1 s2 es1 es2 hr hr' hl hl' hb
 ·rw [e1];exact ⟨Nat.le_refl _,fun _=>⟨none,0,rfl,Nat.le_refl _,Nat.zero_le _,fun h0=>absurd h0 (Nat.lt_irrefl 0)⟩⟩
def Dg (t nm gn sz:Nat) (σ:St):St:=⟨σ.nx,Ci σ.tm t (.rsl nm gn 0 0),Ci σ.hp nm (.arr gn sz [])⟩
theorem BY (t nm gn sz:Nat) (h1:lk σ.tm .any t=Bw) (h2:lk σ.hp .nil nm= .nil):Wk nt ne σ (Dg t nm gn sz σ):=fun c0 h0 c a he hn hr=>by
 obtain ⟨c',e,k,r,v⟩:=Nh hr.hp h2 gn sz;have eh:lk (Dg t nm gn sz σ).hp .nil=Bc [(nm, .arr gn sz [])] (lk σ.hp .nil):=by
  funext q;simp only [Dg,GV,Bc,List.foldl];by_cases hq:nm=q
  ·simp [hq]
  ·simp [hq,Ne.symm hq]
 refine ⟨c',e,⟨by rw [eh];exact hr.kp.trans k,by rw [eh];exact r,hr.fr.sz,hr.fr.df,fun s=> ?_⟩⟩;rw [eh];simp only [Dg,GV];split
 ·rename_i hs;subst hs;have:=hr.fr.tm t;rw [h1] at this;rw [As this];exact v
 ·exact (hr.fr.tm s).ext k.ext
def Qc (r g s nm gn sz:Nat) (σ:St):St:=⟨σ.nx,σ.tm,Ci (Ci σ.hp nm (.arr gn sz [])) r (.arr g s [.rsl nm gn 0 0])⟩
theorem Jv (r g s nm gn sz:Nat) (h1:lk σ.hp .nil r= .arr g s [Bw]) (h2:lk σ.hp .nil nm= .nil):Wk nt ne σ (Qc r g s nm gn sz σ):=fun c0 h0 c a he hn hr=>by
 obtain ⟨c',e,k,rh,v⟩:=Nh hr.hp h2 gn sz;have hne:r≠nm:=fun hq=>by rw [hq,h2] at h1;cases h1
 have hr1:Bc [(nm, .arr gn sz [])] (lk σ.hp .nil) r= .arr g s [Bw]:=by simp [Bc,hne,h1]
 have hl:c'.rl r=true:=by
  cases hl:c'.rl r with
  | true=>rfl
  | false=>have:=rh.em r g s [Bw] hr1 hl;cases this
 obtain ⟨cs,ty,a1,a2,a3,a4⟩:=rh.ar r g s [Bw] hr1 hl;obtain ⟨k2,rh2,e2⟩:=E6 rh (g' :=g) (es' :=[.rsl nm gn 0 0]) (cs' :=cs) hr1 hl a1 rfl (Nat.le_refl _) (by simpa using a2) (fun i x hx=>by
   cases i with
   | zero=>simp at hx;subst hx;exact a3 0 Bw rfl
   | succ i=>simp at hx) (fun i x j u hx hj=>by
   cases i with
   | zero =>
    simp at hx
    subst hx
    cases j with
    | zero =>
     simp [AV.cs] at hj
     subst hj
     obtain ⟨y,hy,hv⟩:=a4 0 Bw 0 Bw rfl rfl
     refine ⟨y,hy,?_⟩
     rw [As hv]
     exact v
    | succ j=>simp [AV.cs] at hj
   | succ i=>simp at hx) c'.w (fun _ _=>rfl) a1 rfl rfl rfl rfl rfl
 have eh:lk (Qc r g s nm gn sz σ).hp .nil=Bc [(r, .arr g s [.rsl nm gn 0 0])] (Bc [(nm, .arr gn sz [])] (lk σ.hp .nil)):=by
  funext q;simp only [Qc,GV,Bc,List.foldl];by_cases hq:r=q
  ·simp [hq]
  ·by_cases hq' :nm=q
   ·subst hq';simp [hq,Ne.symm hq]
   ·simp [hq,Ne.symm hq,hq',Ne.symm hq']
 refine ⟨_,e,⟨by rw [eh];exact hr.kp.trans (k.trans k2),by rw [eh];exact rh2,hr.fr.sz,hr.fr.df,fun q=> ?_⟩⟩;rw [eh];exact (hr.fr.tm q).ext (k.trans k2).ext
end
section
variable {P:Program} {T:Dj} {nt ne:Nat} {D:List Oper→St→(St→Prop)→Prop} {Q:Exit→St→Prop} {σ:St}
theorem HM {a:Code} (n:Nat) (R:Nat→Prop) (S:Nat→St) (l:List (Nat×Nat)) (d:Nat) (ts:List Nat) (nx:Nat) (hl:C0 ne l) (h0:R 0) (h1:Fj l d ts nx σ=S 0)
  (h:∀k,k≤n→R k→∀K:St→Prop,(∀σ'',k<n→R (k+1)→Fj l d ts nx σ'' =S (k+1)→K σ'')→AW P T nt ne D a (Cr K Q) (S k)):AW P T nt ne D (.loop a) Q σ:=by
 refine ZD (fun m σ=>∃k,k≤n∧m=n-k∧R k∧σ=S k) l d ts nx hl ⟨_,0,Nat.zero_le _,rfl,h0,h1⟩ ?_;rintro m σ' ⟨k,hk,rfl,hR,rfl⟩ K hK;exact h k hk hR K fun σ'' hlt hR' he=>hK _ σ'' (by omega) ⟨k+1,hlt,rfl,hR',he⟩
theorem NP {a:Code} (I:Nat→St→Prop) (l0 l:List (Nat×Nat)) (d:Nat) (ts:List Nat) (nx:Nat) (hl0:C0 ne l0) (hl:C0 ne l) (h0:∃n,I n (Fj l0 d ts nx σ))
  (h:∀n σ',I n σ' →∀K:St→Prop,(∀m σ'',m<n→I m (Fj l d ts nx σ'')→K σ'')→AW P T nt ne D a (Cr K Q) σ'):AW P T nt ne D (.loop a) Q σ:=by
 obtain ⟨n,h0⟩:=h0;exact ⟨I,⟨n,_,HH hl0,h0⟩,fun n σ' hI=>h n σ' hI _ fun m σ'' hm hI2=>⟨m,_,hm,HH hl,hI2⟩⟩
theorem EU {a:Code} (n:Nat) (R:Nat→Prop) (S:Nat→St) (l0 l:List (Nat×Nat)) (d:Nat) (ts:List Nat) (nx:Nat) (hl0:C0 ne l0) (hl:C0 ne l) (h0:R 0) (h1:Fj l0 d ts nx σ=S 0)
  (h:∀k,k≤n→R k→∀K:St→Prop,(∀σ'',k<n→R (k+1)→Fj l d ts nx σ'' =S (k+1)→K σ'')→AW P T nt ne D a (Cr K Q) (S k)):AW P T nt ne D (.loop a) Q σ:=by
 refine NP (fun m σ=>∃k,k≤n∧m=n-k∧R k∧σ=S k) l0 l d ts nx hl0 hl ⟨_,0,Nat.zero_le _,rfl,h0,h1⟩ ?_;rintro m σ' ⟨k,hk,rfl,hR,rfl⟩ K hK;exact h k hk hR K fun σ'' hlt hR' he=>hK _ σ'' (by omega) ⟨k+1,hlt,rfl,hR',he⟩
theorem BD {l:List (Nat×Nat)} (h1:(l.map (·.1)).Nodup) (h2:(l.map (·.2)).Nodup):C0 0 l:=⟨fun i h=>absurd h (Nat.not_lt_zero i),h1,h2⟩
end
theorem D2 {P:Program} {f:Nat} {ys:List AV} {x x' :AV} (hx:∀c h y,AS c h x y→AS c h x' y) (h:AM P f ys x):AM P f ys x' :=by
 refine ⟨h.1,fun c vals hn hh hr=>(h.2 c vals hn hh hr).mono ?_⟩;rintro e w' ⟨v,y,hl,c',e1,e2,⟨rfl,rfl⟩,k1,k2,k3⟩;exact ⟨v,x',[],c',e1,e2,⟨rfl,rfl⟩,k1,k2,hx _ _ _ k3⟩
theorem FX {c:Cx} {h:HF} {f:Bool} {sz:Nat} {y:Value} (k:AS c h (.v (.slice none 0 0)) y):AS c h (.sl f sz []) y:=by
 rw [As k];exact .slE f sz none 0 (Nat.zero_le _)
theorem Tk {c:Cx} {h:HF} {f:Bool} {sz:Nat} {y:Value} (k:AS c h (.sl f sz []) y):∃A cap,cap≤maxLen∧y= .slice A 0 cap:=by
 cases k with
 | slE _ _ A cap hc=>exact ⟨A,cap,hc,rfl⟩
 | sl _ _ _ b o cap ys h1 h2=>exact ⟨_,_,h2,rfl⟩
theorem TZ {P:Program} {f:Nat} {fl:Bool} {sz:Nat} {ys:List AV} {x:AV} (h:∀A cap,cap≤maxLen→AM P f (.v (.slice A 0 cap)::ys) x):AM P f (.sl fl sz []::ys) x:=by
 refine ⟨(h none 0 (Nat.zero_le _)).1,fun c vals hn hh hr=> ?_⟩;obtain ⟨hs,hi⟩:=hr;have h0:0<vals.size:=by rw [hs];simp
 obtain ⟨A,cap,hc,he⟩:=Tk (hi 0 _ vals[0] rfl (by simp [h0]));refine (h A cap hc).2 c vals hn hh ⟨by rw [hs];rfl,fun i u v hu hv=> ?_⟩;cases i with
 | zero =>
  simp at hu;subst hu;rw [show vals[0]? =some vals[0] by simp [h0]] at hv;injection hv with hv
  rw [←hv,he];exact .v _
 | succ i=>exact hi (i+1) u v (by simpa using hu) hv
theorem Mi {P:Program} {f:Nat} {fl:Bool} {sz:Nat} {ys:List AV} {R:AV→Hl→Prop} (h:∀A cap,cap≤maxLen→Bb P f (.v (.slice A 0 cap)::ys) [] R):Bb P f (.sl fl sz []::ys) [] R:=by
 refine ⟨(h none 0 (Nat.zero_le _)).1,fun c vals hn hh hr=> ?_⟩;obtain ⟨hs,hi⟩:=hr;have h0:0<vals.size:=by rw [hs];simp
 obtain ⟨A,cap,hc,he⟩:=Tk (hi 0 _ vals[0] rfl (by simp [h0]));refine (h A cap hc).2 c vals hn hh ⟨by rw [hs];rfl,fun i u v hu hv=> ?_⟩;cases i with
 | zero =>
  simp at hu;subst hu;rw [show vals[0]? =some vals[0] by simp [h0]] at hv;injection hv with hv
  rw [←hv,he];exact .v _
 | succ i=>exact hi (i+1) u v (by simpa using hu) hv
def Je (P:Program) (f:Nat) (ys:List AV) (res:AV) (obs:Hl):Prop:=Bb P f ys [] fun x hl=>x=res∧hl=obs
theorem Ap.own {P:Program} {f:Nat} {xs ys:List AV} {res:AV} {obs hp:Hl} {nm:Nat} {K:AV→Hl→Prop} (hC:Je P f ys res obs) (hy:passL (fun _=>none) (lk hp .nil) xs=ys) (hb:(res.allT=true∧∀p∈obs,Yh p.2=true)∨nobL (fun _=>none) xs=true)
  (hcl:FU obs) (hf:∀p∈obs,lk hp .nil (nm+p.1)= .nil) (h:K (res.ren (rn nm [])) (HT (rn nm []) obs hp)):Ap P f xs hp nm K:=by
 have e:E7 0 []=fun _=>none:=by funext r;rfl
 subst hy;rcases hb with ⟨hb1,hb2⟩ | hb
 ·refine ⟨[],true,_,by rw [e];exact hC,List.nodup_nil,(fun r h=>by cases h), .inl rfl,?_⟩;rintro x hl ⟨rfl,rfl⟩;exact ⟨hcl,(fun _=>⟨hb1,hb2⟩),(fun p hp _=>hf p hp),h⟩
 ·refine ⟨[],false,_,by rw [e];exact hC,List.nodup_nil,(fun r h=>by cases h), .inr ⟨by rw [e];exact hb,(fun r h=>by cases h)⟩,?_⟩;rintro x hl ⟨rfl,rfl⟩;exact ⟨hcl,(fun h=>by cases h),(fun p hp _=>hf p hp),h⟩
theorem Cn.own {P:Program} {f:Nat} {xs ys:List AV} {res:AV} {obs hp:Hl} {nm:Nat} {C:List Nat→Prop} {K:AV→Hl→Prop} (hC:Je P f ys res obs) (hy:passL (fun _=>none) (lk hp .nil) xs=ys) (hc:C []) (hb:(res.allT=true∧∀p∈obs,Yh p.2=true)∨nobL (fun _=>none) xs=true)
  (hcl:FU obs) (hf:∀p∈obs,p.1<16∧lk hp .nil (nm+p.1)= .nil) (h:K (res.ren (rn nm [])) (HT (rn nm []) obs hp)):Cn P f xs hp nm C K:=by
 have e:E7 0 []=fun _=>none:=by funext r;rfl
 subst hy;rcases hb with ⟨hb1,hb2⟩ | hb
 ·refine ⟨[],true,_,hc,by rw [e];exact hC,List.nodup_nil,(fun r h=>by cases h), .inl rfl,?_⟩;rintro x hl ⟨rfl,rfl⟩;exact ⟨hcl,(fun _=>⟨hb1,hb2⟩),(fun p hp _=>hf p hp),h⟩
 ·refine ⟨[],false,_,hc,by rw [e];exact hC,List.nodup_nil,(fun r h=>by cases h), .inr ⟨by rw [e];exact hb,(fun r h=>by cases h)⟩,?_⟩;rintro x hl ⟨rfl,rfl⟩;exact ⟨hcl,(fun h=>by cases h),(fun p hp _=>hf p hp),h⟩
theorem Wh {i:Nat} {o:Ob} (h:o≠ .nil):FU [(i,o)]:=⟨by simp,fun p hp=>by simp at hp;subst hp;exact h⟩
theorem XT {i j:Nat} {o o' :Ob} (hij:i≠j) (h:o≠ .nil) (h' :o' ≠ .nil):FU [(i,o),(j,o')]:=⟨by simp [hij],fun p hp=>by simp at hp;rcases hp with rfl | rfl;exact h;exact h'⟩
end Go.Proofs.YthblfhgofopcaaaGreat

namespace Go.Proofs.YthblfhgofopcaaaGreat
open Go.RowKit
variable [DM]
section
variable {P:Program} {T:Dj} {nt ne:Nat} {D:List Oper→St→(St→Prop)→Prop} {Q:Exit→St→Prop} {σ:St}
theorem iA {x:Operand} {a b:Code} {t:Bool} (hx:Dd σ.tm x= .v (.bool t)) (ht:t=true) (h:AW P T nt ne D a Q σ):AW P T nt ne D (.cond x a b) Q σ:=Ac hx ⟨fun _=>h,fun e=>by rw [ht] at e;cases e⟩
theorem E2 {x:Operand} {a b:Code} {t:Bool} (hx:Dd σ.tm x= .v (.bool t)) (ht:t=false) (h:AW P T nt ne D b Q σ):AW P T nt ne D (.cond x a b) Q σ:=Ac hx ⟨(fun e=>by rw [ht] at e;cases e),fun _=>h⟩
end
theorem nW (k:Nat):((k:Int)-1).toNat=k-1:=by omega
theorem mO (k m:Nat):((k:Int)-(m:Int)).toNat=k-m:=by omega
theorem pI (k:Nat):((k:Int)+1).toNat=k+1:=by omega
theorem nH (k m:Nat):((k:Int)+(m:Int)).toNat=k+m:=by omega
theorem oB (k:Nat):((k:Int)+2).toNat=k+2:=by omega
theorem lR (m:Nat):((m:Int)-((m:Int)-1)).toNat=1:=by omega
end Go.Proofs.YthblfhgofopcaaaGreat
