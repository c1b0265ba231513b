/-
  Parts of the proof: SplA, LibA, LibB.
-/
import Derived.Test.YthblfhgofopcaaaGreatSH17
import Derived.Test.YthblfhgofopcaaaGreatSH13
import Derived.Test.YthblfhgofopcaaaGreatSH18
import Derived.Test.YthblfhgofopcaaaGreatSH11
set_option linter.all false
namespace Go.Proofs.YthblfhgofopcaaaGreat
instance gpDec:DecidableEq Gp:=fun a b=>if h:a.wh=b.wh∧a.kd=b.kd∧a.op=b.op then isTrue (by cases a;cases b;simp_all) else isFalse (by rintro rfl;simp at h)
def C6 (a b:Gp):Int:=if a.wh<b.wh then -1 else if b.wh<a.wh then 1 else if a.kd<b.kd then -1 else if b.kd<a.kd then 1 else 0
def BL:List Gp→List Gp→Int
 | [],[]=>0
 | [],_::_=> -1
 | _::_,[]=>1
 | a::l,b::m=>if C6 a b=0 then BL l m else C6 a b
theorem A2 (a b:Gp):(C6 a b= -1∧(a.wh<b.wh∨a.wh=b.wh∧a.kd<b.kd))∨(C6 a b=0∧a.wh=b.wh∧a.kd=b.kd)∨(C6 a b=1∧(b.wh<a.wh∨a.wh=b.wh∧b.kd<a.kd)):=by
 unfold C6;repeat' split
 all_goals omega
theorem Gt (a b:Gp):C6 b a= -C6 a b:=by
 have h1:=A2 a b;have h2:=A2 b a;omega
theorem O0 (a:Gp):C6 a a=0:=by have h1:=A2 a a;omega
theorem S9 {a b c:Gp} (h1:C6 a b≤0) (h2:C6 b c≤0):C6 a c≤0∧(C6 a c=0→C6 a b=0∧C6 b c=0):=by
 have:=A2 a b;have:=A2 b c;have:=A2 a c;omega
theorem U3 {a b:Gp} (h:C6 a b=0):a.wh=b.wh∧a.kd=b.kd:=by have:=A2 a b;omega
theorem Dy:∀a b:List Gp,BL b a= -BL a b
 | [],[]=>rfl
 | [],_::_=>rfl
 | _::_,[]=>rfl
 | a::l,b::m=>by
  have h:=Dy l m;have h2:=Gt a b;simp only [BL];split<;>split<;>omega
theorem Ez:∀a:List Gp,BL a a=0
 | []=>rfl
 | a::l=>by simp only [BL,O0,if_true];exact Ez l
theorem En:∀{a b c:List Gp},BL a b≤0→BL b c≤0→BL a c≤0∧(BL a c=0→BL a b=0∧BL b c=0)
 | [],[],[],_,_=>by simp [BL]
 | [],[],_::_,_,_=>by simp [BL]
 | [],_::_,[],_,h=>by simp [BL] at h
 | [],_::_,_::_,_,_=>by simp [BL]
 | _::_,[],_,h,_=>by simp [BL] at h
 | _::_,_::_,[],_,h=>by simp [BL] at h
 | a::l,b::m,c::n,h1,h2=>by
  have k1:=A2 a b;have k2:=A2 b c;have k3:=A2 a c;simp only [BL] at *;by_cases e1:C6 a b=0<;>by_cases e2:C6 b c=0
  ·rw [if_pos e1] at h1 ⊢;rw [if_pos e2] at h2 ⊢;rw [if_pos (show C6 a c=0 by omega)];exact En h1 h2
  ·rw [if_neg e2] at h2;rw [if_neg (show ¬C6 a c=0 by omega)];refine ⟨by omega,fun h=>absurd h (by omega)⟩
  ·rw [if_neg e1] at h1;rw [if_neg (show ¬C6 a c=0 by omega)];refine ⟨by omega,fun h=>absurd h (by omega)⟩
  ·rw [if_neg e1] at h1;rw [if_neg e2] at h2;rw [if_neg (show ¬C6 a c=0 by omega)];refine ⟨by omega,fun h=>absurd h (by omega)⟩
def Cl (l:List Gp):Prop:=∀g∈l,g.op=false
theorem dU {a b:Gp} (h:C6 a b=0) (ha:a.op=false) (hb:b.op=false):a=b:=by
 obtain ⟨h1,h2⟩:=U3 h;cases a;cases b;simp_all
theorem MD:∀{a b:List Gp},BL a b=0→Cl a→Cl b→a=b
 | [],[],_,_,_=>rfl
 | [],_::_,h,_,_=>by simp [BL] at h
 | _::_,[],h,_,_=>by simp [BL] at h
 | a::l,b::m,h,ha,hb=>by
  simp only [BL] at h;split at h
  ·rename_i e;rw [dU e (ha a (by simp)) (hb b (by simp)),MD h (fun g hg=>ha g (by simp [hg])) (fun g hg=>hb g (by simp [hg]))]
  ·rename_i e;exact absurd h e
def SG (l:List Gp):Prop:=l.Pairwise fun a b=>C6 a b≤0
def SL (l:List (List Gp)):Prop:=l.Pairwise fun a b=>BL a b<0
theorem Hx {α:Type} {r:α→α→Prop} (anti:∀a b,r a b→r b a→a=b):∀{l m:List α},l.Perm m→l.Pairwise r→m.Pairwise r→l=m
 | [],m,h,_,_=>(List.nil_perm.1 h).symm ▸ rfl
 | a::l,[],h,_,_=>absurd h.length_eq (by simp)
 | a::l,b::m,h,hl,hm=>by
  rw [List.pairwise_cons] at hl hm;have hab:a=b:=by
   have h1:a∈b::m:=h.subset (by simp);have h2:b∈a::l:=h.symm.subset (by simp);rcases List.mem_cons.1 h1 with e | h1
   ·exact e
   ·rcases List.mem_cons.1 h2 with e | h2
    ·exact e.symm
    ·exact anti a b (hl.1 b h2) (hm.1 a h1)
  subst hab;rw [Hx anti (List.perm_cons a |>.1 h) hl.2 hm.2]
theorem L9 {l m:List Gp} (h:l.Perm m) (hl:SG l) (hm:SG m) (hc:Cl l):l=m:=by
 refine Hx (r:=fun a b=>C6 a b≤0∧a.op=false∧b.op=false) (fun a b h1 h2=>dU (by have:=Gt a b;omega) h1.2.1 h1.2.2) h ?_ ?_
 ·exact hl.imp_of_mem fun {a b} ha hb k=>⟨k,hc a ha,hc b hb⟩
 ·exact hm.imp_of_mem fun {a b} ha hb k=>⟨k,hc a (h.symm.subset ha),hc b (h.symm.subset hb)⟩
theorem PF:∀{l m:List (List Gp)},SL l→SL m→(∀x,x∈l↔x∈m)→l=m
 | [],[],_,_,_=>rfl
 | [],b::m,_,_,h=>absurd ((h b).2 (by simp)) (by simp)
 | a::l,[],_,_,h=>absurd ((h a).1 (by simp)) (by simp)
 | a::l,b::m,hl,hm,h=>by
  have hl' :=List.pairwise_cons.1 hl;have hm' :=List.pairwise_cons.1 hm;have hab:a=b:=by
   rcases List.mem_cons.1 ((h a).1 (by simp)) with e | h1
   ·exact e
   ·rcases List.mem_cons.1 ((h b).2 (by simp)) with e | h2
    ·exact e.symm
    ·have k1:=hm'.1 a h1;have k2:=hl'.1 b h2;have:=Dy a b;omega
  subst hab;rw [PF hl'.2 hm'.2 fun x=>⟨fun hx=> ?_,fun hx=> ?_⟩]
  ·rcases List.mem_cons.1 ((h x).1 (by simp [hx])) with e | h1
   ·subst e;have:=hl'.1 x hx;have:=Ez x;omega
   ·exact h1
  ·rcases List.mem_cons.1 ((h x).2 (by simp [hx])) with e | h1
   ·subst e;have:=hm'.1 x hx;have:=Ez x;omega
   ·exact h1
def Lh (l:List Gp) (g:Gp):Nat→Nat
 | 0=>0
 | n+1=>match l[n]? with
  | some x=>if C6 g x<0 then Lh l g n else n+1
  | none=>n+1
def BN (l:List Gp) (g:Gp):List Gp:=l.take (Lh l g l.length)++g::l.drop (Lh l g l.length)
theorem Jz (l:List Gp) (g:Gp) {n:Nat} (h:n<l.length):Lh l g (n+1)=if C6 g l[n]<0 then Lh l g n else n+1:=by
 rw [Lh,List.getElem?_eq_getElem h]
theorem Xl (l:List Gp) (g:Gp):∀n,Lh l g n≤n
 | 0=>Nat.le_refl _
 | n+1=>by
  unfold Lh;split
  ·split
   ·exact Nat.le_succ_of_le (Xl l g n)
   ·exact Nat.le_refl _
  ·exact Nat.le_refl _
theorem Br (l:List Gp) (g:Gp):(BN l g).Perm (g::l):=by
 unfold BN;refine List.perm_middle.trans ?_;rw [List.take_append_drop]
theorem Ww (l:List Gp) (g:Gp):∀n,n≤l.length→∀i x,Lh l g n≤i→i<n→l[i]? =some x→C6 g x<0
 | 0,_,i,x,_,h,_=>absurd h (Nat.not_lt_zero i)
 | n+1,hn,i,x,h1,h2,h3=>by
  rw [Jz l g (show n<l.length by omega)] at h1;split at h1
  ·rename_i hg;by_cases hi:i=n
   ·subst hi;rw [List.getElem?_eq_getElem (by omega)] at h3;injection h3 with h3;rw [←h3];exact hg
   ·exact Ww l g n (by omega) i x h1 (by omega) h3
  ·omega
theorem Oi (l:List Gp) (g:Gp):∀n,n≤l.length→∀x,0<Lh l g n→l[Lh l g n-1]? =some x→¬C6 g x<0
 | 0,_,x,h,_=>absurd h (Nat.not_lt_zero _)
 | n+1,hn,x,h1,h2=>by
  rw [Jz l g (show n<l.length by omega)] at h1 h2;split at h1
  ·rename_i hg;rw [if_pos hg] at h2;exact Oi l g n (by omega) x h1 h2
  ·rename_i hg;rw [if_neg hg] at h2;simp only [Nat.add_sub_cancel] at h2;rw [List.getElem?_eq_getElem (by omega)] at h2;injection h2 with h2
   rw [←h2];exact hg
theorem Ea {l:List Gp} (g:Gp) (h:SG l):SG (BN l g):=by
 unfold BN SG;have h' :=h;unfold SG at h';rw [←List.take_append_drop (Lh l g l.length) l,List.pairwise_append] at h';obtain ⟨h1,h2,h3⟩:=h';have hle:=Xl l g l.length;rw [List.pairwise_append,List.pairwise_cons];refine ⟨h1,⟨fun b hb=> ?_,h2⟩,fun a ha b hb=> ?_⟩
 ·obtain ⟨i,hi,rfl⟩:=List.mem_iff_getElem.1 hb;have:=Ww l g l.length (Nat.le_refl _) (Lh l g l.length+i) _ (by omega) (by simp at hi;omega) (by rw [←List.getElem?_drop,List.getElem?_eq_getElem hi]);omega
 ·rcases List.mem_cons.1 hb with rfl | hb
  ·have hn:0<Lh l b l.length:=by
    rcases Nat.eq_zero_or_pos (Lh l b l.length) with e | e
    ·rw [e] at ha;simp at ha
    ·exact e
   have hlt:Lh l b l.length-1<l.length:=by omega
   have k1:=Oi l b l.length (Nat.le_refl _) _ hn (List.getElem?_eq_getElem hlt);have k2:=Gt b (l[Lh l b l.length-1]);obtain ⟨i,hi,rfl⟩:=List.mem_iff_getElem.1 ha;rw [List.getElem_take];simp at hi;by_cases he:i=Lh l b l.length-1
   ·subst he;omega
   ·have k3:=List.pairwise_iff_getElem.1 h i (Lh l b l.length-1) (by omega) hlt (by omega);exact (S9 k3 (by omega)).1
  ·exact h3 a ha b hb
def JK (l:List (List Gp)) (g:List Gp):Nat→Nat
 | 0=>0
 | n+1=>match l[n]? with
  | some x=>if BL g x<0 then JK l g n else n+1
  | none=>n+1
def E0 (l:List (List Gp)) (g:List Gp):List (List Gp) :=
 if 0<JK l g l.length∧BL g ((l[JK l g l.length-1]?).getD [])=0 then l else l.take (JK l g l.length)++g::l.drop (JK l g l.length)
theorem NI (l:List (List Gp)) (g:List Gp) {n:Nat} (h:n<l.length):JK l g (n+1)=if BL g l[n]<0 then JK l g n else n+1:=by
 rw [JK,List.getElem?_eq_getElem h]
theorem SV (l:List (List Gp)) (g:List Gp):∀n,JK l g n≤n
 | 0=>Nat.le_refl _
 | n+1=>by
  unfold JK;split
  ·split
   ·exact Nat.le_succ_of_le (SV l g n)
   ·exact Nat.le_refl _
  ·exact Nat.le_refl _
theorem XA (l:List (List Gp)) (g:List Gp):∀n,n≤l.length→∀i x,JK l g n≤i→i<n→l[i]? =some x→BL g x<0
 | 0,_,i,x,_,h,_=>absurd h (Nat.not_lt_zero i)
 | n+1,hn,i,x,h1,h2,h3=>by
  rw [NI l g (show n<l.length by omega)] at h1;split at h1
  ·rename_i hg;by_cases hi:i=n
   ·subst hi;rw [List.getElem?_eq_getElem (by omega)] at h3;injection h3 with h3;rw [←h3];exact hg
   ·exact XA l g n (by omega) i x h1 (by omega) h3
  ·omega
theorem ON (l:List (List Gp)) (g:List Gp):∀n,n≤l.length→∀x,0<JK l g n→l[JK l g n-1]? =some x→¬BL g x<0
 | 0,_,x,h,_=>absurd h (Nat.not_lt_zero _)
 | n+1,hn,x,h1,h2=>by
  rw [NI l g (show n<l.length by omega)] at h1 h2;split at h1
  ·rename_i hg;rw [if_pos hg] at h2;exact ON l g n (by omega) x h1 h2
  ·rename_i hg;rw [if_neg hg] at h2;simp only [Nat.add_sub_cancel] at h2;rw [List.getElem?_eq_getElem (by omega)] at h2;injection h2 with h2
   rw [←h2];exact hg
theorem T4 {l:List (List Gp)} {g:List Gp} (h:SL l) (hc:∀x∈l,Cl x) (hg:Cl g):SL (E0 l g)∧∀x,x∈E0 l g↔x=g∨x∈l:=by
 unfold E0;have hle:=SV l g l.length;split
 ·rename_i hz;obtain ⟨h0,hz⟩:=hz;have hlt:JK l g l.length-1<l.length:=by omega
  rw [List.getElem?_eq_getElem hlt,Option.getD_some] at hz;have he:g=l[JK l g l.length-1]:=MD hz hg (hc _ (List.getElem_mem hlt));refine ⟨h,fun x=>⟨.inr,fun hx=> ?_⟩⟩;rcases hx with rfl | hx
  ·rw [he];exact List.getElem_mem hlt
  ·exact hx
 ·rename_i hz;have h' :=h;unfold SL at h';rw [←List.take_append_drop (JK l g l.length) l,List.pairwise_append] at h';obtain ⟨h1,h2,h3⟩:=h';constructor
  ·unfold SL;rw [List.pairwise_append,List.pairwise_cons];refine ⟨h1,⟨fun b hb=> ?_,h2⟩,fun a ha b hb=> ?_⟩
   ·obtain ⟨i,hi,rfl⟩:=List.mem_iff_getElem.1 hb;exact XA l g l.length (Nat.le_refl _) (JK l g l.length+i) _ (by omega) (by simp at hi;omega) (by rw [←List.getElem?_drop,List.getElem?_eq_getElem hi])
   ·rcases List.mem_cons.1 hb with rfl | hb
    ·have hn:0<JK l b l.length:=by
      rcases Nat.eq_zero_or_pos (JK l b l.length) with e | e
      ·rw [e] at ha;simp at ha
      ·exact e
     have hlt:JK l b l.length-1<l.length:=by omega
     have k1:=ON l b l.length (Nat.le_refl _) _ hn (List.getElem?_eq_getElem hlt);have k2:=Dy b (l[JK l b l.length-1]);have k0:BL b (l[JK l b l.length-1])≠0:=fun e=>hz ⟨hn,by rw [List.getElem?_eq_getElem hlt];exact e⟩
     obtain ⟨i,hi,rfl⟩:=List.mem_iff_getElem.1 ha;rw [List.getElem_take];simp at hi;by_cases he:i=JK l b l.length-1
     ·subst he;omega
     ·have k3:=List.pairwise_iff_getElem.1 h i (JK l b l.length-1) (by omega) hlt (by omega);have k4:=En (Int.le_of_lt k3) (show BL (l[JK l b l.length-1]) b≤0 by omega);rcases Int.lt_or_eq_of_le k4.1 with k5 | k5
      ·exact k5
      ·have:=(k4.2 k5).1;omega
    ·exact h3 a ha b hb
  ·intro x;rw [List.mem_append,List.mem_cons];have:x∈l↔x∈l.take (JK l g l.length)∨x∈l.drop (JK l g l.length):=by rw [←List.mem_append,List.take_append_drop]
   rw [this];constructor
   ·rintro (h | h | h)<;>simp [h]
   ·rintro (h | h | h)<;>simp [h]
end Go.Proofs.YthblfhgofopcaaaGreat

namespace Go.Proofs.YthblfhgofopcaaaGreat
open Go.RowKit
variable [DM]
set_option maxRecDepth 100000
set_option maxHeartbeats 2000000
theorem dV (zs:List Int) (hz:zs.length≤1000000):AM Tryz.prog 121 [AN false zs] (AN true zs):=by
 have h1:zs.length≤1000000000000:=by omega
 by_cases he:zs=[]
 ·subst he;refine TZ fun A cap hc=> ?_
  cases A with
  | none =>
   refine D2 (x:= .v (.slice none 0 0)) (fun _ _ _=>FX) ?_;refine zc Tryz.ntmps121 ?_;let tb:=IT;(repeat first | refine zG ?_ | ((with_reducible refine AC ?_);intro K hK) | (refine zM ?_;try clear hK K))
   refine DL ?_ ?_<;>(first | exact AK | refine zE ?_)
  | some a =>
   refine zc Tryz.ntmps121 ?_;let tb:=IT;(repeat first | refine zG ?_ | ((with_reducible refine AC ?_);intro K hK) | (refine zM ?_;try clear hK K))
   refine DL ?_ ?_<;>(first | exact AK | refine zE ?_);rfl
 ·refine zc Tryz.ntmps121 ?_;let tb:=IT;have he' :(zs.map I≠[])=True:=by simp [he]
  (have fa:=(And.intro he' h1);(repeat first | refine zG ?_ | ((with_reducible refine AC ?_);intro K hK) | (refine zM ?_;try clear hK K));(try clear fa))
  refine DL ?_ ?_<;>(first | exact AK | refine zE ?_)
theorem NR (x:Int):AM Tryz.prog 199 [I x] (B false):=by
 refine zc Tryz.ntmps199 ?_;let tb:=Yw;(have fa:= @bne_self_eq_false.{0};(repeat first | refine zG ?_ | ((with_reducible refine AC ?_);intro K hK) | (refine zM ?_;try clear hK K));(try clear fa))
 refine DL ?_ ?_<;>(first | exact AK | refine zE ?_)
def Yl (a b:Int):Int:=if a<b then -1 else if b<a then 1 else 0
theorem KH (x y:Int):AM Tryz.prog 184 [I x,I y] (I (Yl x y)):=by
 refine zc Tryz.ntmps184 ?_;let tb:=Ze;(repeat first | refine zG ?_ | ((with_reducible refine AC ?_);intro K hK) | (refine zM ?_;try clear hK K))
 (refine zW (NR x) ?_)
 (repeat first | refine zG ?_ | ((with_reducible refine AC ?_);intro K hK) | (refine zM ?_;try clear hK K))
 (refine zW (NR y) ?_)
 (repeat first | refine zG ?_ | ((with_reducible refine AC ?_);intro K hK) | (refine zM ?_;try clear hK K))
 refine Ac rfl ⟨fun hb=> ?_,fun hb=> ?_⟩
 ·have h:x<y:=by simpa using hb
  (repeat first | refine zG ?_ | ((with_reducible refine AC ?_);intro K hK) | (refine zM ?_;try clear hK K))
  refine DL ?_ ?_<;>(first | exact AK | refine zE ?_);simp [Yl,h]
 ·have h:¬x<y:=by simpa using hb
  (repeat first | refine zG ?_ | ((with_reducible refine AC ?_);intro K hK) | (refine zM ?_;try clear hK K))
  refine Ac rfl ⟨fun hb=> ?_,fun hb=> ?_⟩
  ·have h' :y<x:=by simpa using hb
   (repeat first | refine zG ?_ | ((with_reducible refine AC ?_);intro K hK) | (refine zM ?_;try clear hK K))
   refine DL ?_ ?_<;>(first | exact AK | refine zE ?_);simp [Yl,h,h']
  ·have h' :¬y<x:=by simpa using hb
   (repeat first | refine zG ?_ | ((with_reducible refine AC ?_);intro K hK) | (refine zM ?_;try clear hK K))
   refine DL ?_ ?_<;>(first | exact AK | refine zE ?_);simp [Yl,h,h']
theorem Xh (x y:Int):AM Tryz.prog 183 [.sl false 1 [I x,I y]] (I (if x≠0 then x else y)):=by
 refine zc Tryz.ntmps183 ?_;let tb:=aY;(repeat first | refine zG ?_ | ((with_reducible refine AC ?_);intro K hK) | (refine zM ?_;try clear hK K))
 refine HM 2 (fun k=>(0<k→x=0)∧(1<k→y=0)) (fun k=>⟨80,[(3,I 0),(6, .sl false 1 [I x,I y]),(7,I 2),(8,I k)],[]⟩) [] 0 [3,6,7,8] 80 DK ⟨fun h=>absurd h (by omega),fun h=>absurd h (by omega)⟩ (by exact zV) ?_;intro k hk hR J hJ;rcases (show k=0∨k=1∨k=2 by omega) with rfl | rfl | rfl
 ·(repeat first | refine zG ?_ | ((with_reducible refine AC ?_);intro K hK) | (refine zM ?_;try clear hK K))
  refine Ac rfl ⟨fun hb=> ?_,fun hb=> ?_⟩
  ·(repeat first | refine zG ?_ | ((with_reducible refine AC ?_);intro K hK) | (refine zM ?_;try clear hK K))
   refine DL ?_ ?_<;>(first | exact AK | refine zE ?_);simp at hb;simp [hb]
  ·have hx:x=0:=by simpa using hb
   subst hx;(repeat first | refine zG ?_ | ((with_reducible refine AC ?_);intro K hK) | (refine zM ?_;try clear hK K))
   refine hJ _ (by omega) ⟨fun _=>rfl,fun h=>by first | rfl | exact absurd h (by omega)⟩ (by exact zV)
 ·have hx:x=0:=hR.1 (by omega);subst hx;have e1:((1:Nat):Int)=1:=rfl;(have fa:=e1;(repeat first | refine zG ?_ | ((with_reducible refine AC ?_);intro K hK) | (refine zM ?_;try clear hK K));(try clear fa))
  refine Ac rfl ⟨fun hb=> ?_,fun hb=> ?_⟩
  ·(have fa:=e1;(repeat first | refine zG ?_ | ((with_reducible refine AC ?_);intro K hK) | (refine zM ?_;try clear hK K));(try clear fa))
   refine DL ?_ ?_<;>(first | exact AK | refine zE ?_)
  ·have hy:y=0:=by simpa using hb
   subst hy;(have fa:=e1;(repeat first | refine zG ?_ | ((with_reducible refine AC ?_);intro K hK) | (refine zM ?_;try clear hK K));(try clear fa))
   refine hJ _ (by omega) ⟨fun _=>rfl,fun h=>by first | rfl | exact absurd h (by omega)⟩ (by exact zV)
 ·have hx:x=0:=hR.1 (by omega);subst hx;have e1:((2:Nat):Int)=2:=rfl;have hy:y=0:=hR.2 (by omega);subst hy;(have fa:=e1;(repeat first | refine zG ?_ | ((with_reducible refine AC ?_);intro K hK) | (refine zM ?_;try clear hK K));(try clear fa))
  refine DL ?_ ?_<;>(first | exact AK | refine zE ?_)
theorem YO (x y:Gp):(if Yl x.wh y.wh≠0 then Yl x.wh y.wh else Yl x.kd y.kd)=C6 x y:=by
 have:=A2 x y;unfold Yl;repeat' split
 all_goals omega
theorem Qv (x y:Gp):AM Tryz.prog 182 [AZ x,AZ y] (I (C6 x y)):=by
 refine zc Tryz.ntmps182 ?_;let tb:=Yu;(repeat first | refine zG ?_ | ((with_reducible refine AC ?_);intro K hK) | (refine zM ?_;try clear hK K))
 (refine zD (KH x.wh y.wh) ?_)
 (repeat first | refine zG ?_ | ((with_reducible refine AC ?_);intro K hK) | (refine zM ?_;try clear hK K))
 (refine zD (KH x.kd y.kd) ?_)
 (repeat first | refine zG ?_ | ((with_reducible refine AC ?_);intro K hK) | (refine zM ?_;try clear hK K))
 (refine zD (Xh (Yl x.wh y.wh) (Yl x.kd y.kd)) ?_)
 (repeat first | refine zG ?_ | ((with_reducible refine AC ?_);intro K hK) | (refine zM ?_;try clear hK K))
 refine DL ?_ ?_<;>(first | exact AK | refine zE ?_);rw [YO]
theorem On (a b:List Gp) (k:Nat) (ha:k<a.length) (hb:k<b.length):BL (a.drop k) (b.drop k)=if C6 a[k] b[k]=0 then BL (a.drop (k+1)) (b.drop (k+1)) else C6 a[k] b[k]:=by
 rw [List.drop_eq_getElem_cons ha,List.drop_eq_getElem_cons hb,BL]
theorem Kk (a b:List Gp) (ha:a.length≤1000000) (hb:b.length≤1000000):AM Tryz.prog 181 [AX false a,AX false b, .clo 182 []] (I (BL a b)):=by
 refine zc Tryz.ntmps181 ?_;let tb:=bN;(repeat first | refine zG ?_ | ((with_reducible refine AC ?_);intro K hK) | (refine zM ?_;try clear hK K))
 refine HM a.length (fun k=>k≤b.length∧BL a b=BL (a.drop k) (b.drop k)) (fun k=>⟨80,[(0,AX false a),(1,AX false b),(2, .clo 182 []),(11,AX false a),(12,I a.length),(13,I k)],[]⟩) [] 0 [0,1,2,11,12,13] 80 DK ⟨Nat.zero_le _,rfl⟩ (by exact zV) ?_;rintro k hk ⟨hkb,hR⟩ J hJ;(repeat first | refine zG ?_ | ((with_reducible refine AC ?_);intro K hK) | (refine zM ?_;try clear hK K))
 refine Ac rfl ⟨fun h=> ?_,fun h=> ?_⟩
 ·have hlt:k<a.length:=by simpa using h
  clear h;(have fa:=hlt;(repeat first | refine zG ?_ | ((with_reducible refine AC ?_);intro K hK) | (refine zM ?_;try clear hK K));(try clear fa))
  refine Ac rfl ⟨fun h=> ?_,fun h=> ?_⟩
  ·have hge:b.length≤k:=by simpa using h
   (repeat first | refine zG ?_ | ((with_reducible refine AC ?_);intro K hK) | (refine zM ?_;try clear hK K))
   refine DL ?_ ?_<;>(first | exact AK | refine zE ?_);rw [hR,List.drop_eq_nil_of_le hge,List.drop_eq_getElem_cons hlt,BL]
  ·have hlt' :k<b.length:=by simpa using h
   clear h;(have fa:=hlt';(repeat first | refine zG ?_ | ((with_reducible refine AC ?_);intro K hK) | (refine zM ?_;try clear hK K));(try clear fa))
   (refine zW (Qv a[k] b[k]) ?_)
   (repeat first | refine zG ?_ | ((with_reducible refine AC ?_);intro K hK) | (refine zM ?_;try clear hK K))
   refine Ac rfl ⟨fun h=> ?_,fun h=> ?_⟩
   ·have hne:C6 a[k] b[k]≠0:=by simpa using h
    (repeat first | refine zG ?_ | ((with_reducible refine AC ?_);intro K hK) | (refine zM ?_;try clear hK K))
    refine DL ?_ ?_<;>(first | exact AK | refine zE ?_);rw [hR,On a b k hlt hlt',if_neg hne]
   ·have he:C6 a[k] b[k]=0:=by simpa using h
    clear h;(have fa:=(BK (show k<9223372036854775807 by omega));(repeat first | refine zG ?_ | ((with_reducible refine AC ?_);intro K hK) | (refine zM ?_;try clear hK K));(try clear fa))
    refine hJ _ hlt ⟨hlt',?_⟩ (by exact zV);rw [hR,On a b k hlt hlt',if_pos he]
 ·have hk' :k=a.length:=by have:¬k<a.length:=by simpa using h
                           omega
  subst hk';clear h;(repeat first | refine zG ?_ | ((with_reducible refine AC ?_);intro K hK) | (refine zM ?_;try clear hK K))
  refine Ac rfl ⟨fun h=> ?_,fun h=> ?_⟩
  ·have hlt:a.length<b.length:=by simpa using h
   (repeat first | refine zG ?_ | ((with_reducible refine AC ?_);intro K hK) | (refine zM ?_;try clear hK K))
   refine DL ?_ ?_<;>(first | exact AK | refine zE ?_);rw [hR,List.drop_length,List.drop_eq_getElem_cons hlt,BL]
  ·have hge:¬a.length<b.length:=by simpa using h
   (repeat first | refine zG ?_ | ((with_reducible refine AC ?_);intro K hK) | (refine zM ?_;try clear hK K))
   refine DL ?_ ?_<;>(first | exact AK | refine zE ?_);have:b.length=a.length:=by omega
   rw [hR,List.drop_length,←this,List.drop_length,BL]
theorem MN (a b:List Gp) (ha:a.length≤1000000) (hb:b.length≤1000000):AM Tryz.prog 162 [AX false a,AX false b] (I (BL a b)):=by
 refine zc Tryz.ntmps162 ?_;let tb:=cD;(repeat first | refine zG ?_ | ((with_reducible refine AC ?_);intro K hK) | (refine zM ?_;try clear hK K))
 (refine zW (Kk a b ha hb) ?_)
 (repeat first | refine zG ?_ | ((with_reducible refine AC ?_);intro K hK) | (refine zM ?_;try clear hK K))
 refine DL ?_ ?_<;>(first | exact AK | refine zE ?_)
theorem N8 (x y:Gp):AM Tryz.prog 178 [AZ x,AZ y] (I (C6 x y)):=by
 refine zc Tryz.ntmps178 ?_;let tb:=bH;(repeat first | refine zG ?_ | ((with_reducible refine AC ?_);intro K hK) | (refine zM ?_;try clear hK K))
 (refine zW (MN [x] [y] (by simp) (by simp)) ?_)
 (repeat first | refine zG ?_ | ((with_reducible refine AC ?_);intro K hK) | (refine zM ?_;try clear hK K))
 refine DL ?_ ?_<;>(first | exact AK | refine zE ?_);simp only [BL];split
 ·rename_i h;rw [h]
 ·rfl
end Go.Proofs.YthblfhgofopcaaaGreat

namespace Go.Proofs.YthblfhgofopcaaaGreat
open Go.RowKit
set_option maxRecDepth 100000
set_option maxHeartbeats 2000000
theorem Ff {α:Type} {a b:List α} (hl:a.length=b.length) (h:∀i,(h1:i<a.length)→(h2:i<b.length)→a[i]=b[i]):a=b:=List.ext_getElem hl h
theorem Ld (a b:List Int) (ha:a.length≤1000000):AM Tryz.prog 77 [AN false a,AN false b] (B (decide (a=b))):=by
 refine zc Tryz.ntmps77 ?_;let tb:=iE;(repeat first | refine zG ?_ | ((with_reducible refine AC ?_);intro K hK) | (refine zM ?_;try clear hK K))
 refine Ac rfl ⟨fun h=> ?_,fun h=> ?_⟩
 ·have hne:¬a.length=b.length:=by simp at h;omega
  (repeat first | refine zG ?_ | ((with_reducible refine AC ?_);intro K hK) | (refine zM ?_;try clear hK K))
  refine DL ?_ ?_<;>(first | exact AK | refine zE ?_);have:a≠b:=fun e=>hne (by rw [e])
  simp [this]
 ·have he:a.length=b.length:=by simp at h;omega
  clear h;(repeat first | refine zG ?_ | ((with_reducible refine AC ?_);intro K hK) | (refine zM ?_;try clear hK K))
  refine HM a.length (fun k=>∀i,(h1:i<a.length)→(h2:i<b.length)→i<k→a[i]=b[i]) (fun k=>⟨80,[(0,AN false a),(1,AN false b),(12,I a.length),(13,I k)],[]⟩) [] 0 [0,1,12,13] 80 DK (fun i _ _ h=>absurd h (Nat.not_lt_zero i)) (by exact zV) ?_;intro k hk hR J hJ;(repeat first | refine zG ?_ | ((with_reducible refine AC ?_);intro K hK) | (refine zM ?_;try clear hK K))
  refine Ac rfl ⟨fun h=> ?_,fun h=> ?_⟩
  ·have hlt:k<a.length:=by simpa using h
   have hlt' :k<b.length:=by omega
   clear h;(have fa:=(And.intro hlt hlt');(repeat first | refine zG ?_ | ((with_reducible refine AC ?_);intro K hK) | (refine zM ?_;try clear hK K));(try clear fa))
   refine Ac rfl ⟨fun h=> ?_,fun h=> ?_⟩
   ·have hne:a[k]≠b[k]:=by simpa using h
    (repeat first | refine zG ?_ | ((with_reducible refine AC ?_);intro K hK) | (refine zM ?_;try clear hK K))
    refine DL ?_ ?_<;>(first | exact AK | refine zE ?_);have:a≠b:=fun e=>hne (by simp [e])
    simp [this]
   ·have he' :a[k]=b[k]:=by simpa using h
    clear h;(have fa:=(BK (show k<9223372036854775807 by omega));(repeat first | refine zG ?_ | ((with_reducible refine AC ?_);intro K hK) | (refine zM ?_;try clear hK K));(try clear fa))
    refine hJ _ hlt (fun i h1 h2 h3=> ?_) (by exact zV);by_cases hi:i=k
    ·subst hi;exact he'
    ·exact hR i h1 h2 (by omega)
  ·have hk' :k=a.length:=by have:¬k<a.length:=by simpa using h
                            omega
   subst hk';clear h;(repeat first | refine zG ?_ | ((with_reducible refine AC ?_);intro K hK) | (refine zM ?_;try clear hK K))
   refine DL ?_ ?_<;>(first | exact AK | refine zE ?_);have:a=b:=Ff he fun i h1 h2=>hR i h1 h2 h1
   simp [this]
theorem H6 (x y:Gp):(x.wh==y.wh&&(x.kd==y.kd&&(x.op==y.op&&true)))=decide (x=y):=by
 cases x;cases y;simp only [Bool.and_true,Gp.mk.injEq];rw [Bool.eq_iff_iff];simp
theorem dE (a b:List Gp) (ha:a.length≤1000000):AM Tryz.prog 117 [AX false a,AX false b] (B (decide (a=b))):=by
 refine zc Tryz.ntmps117 ?_;let tb:=Yz;(repeat first | refine zG ?_ | ((with_reducible refine AC ?_);intro K hK) | (refine zM ?_;try clear hK K))
 refine Ac rfl ⟨fun h=> ?_,fun h=> ?_⟩
 ·have hne:¬a.length=b.length:=by simp at h;omega
  (repeat first | refine zG ?_ | ((with_reducible refine AC ?_);intro K hK) | (refine zM ?_;try clear hK K))
  refine DL ?_ ?_<;>(first | exact AK | refine zE ?_);have:a≠b:=fun e=>hne (by rw [e])
  simp [this]
 ·have he:a.length=b.length:=by simp at h;omega
  clear h;(repeat first | refine zG ?_ | ((with_reducible refine AC ?_);intro K hK) | (refine zM ?_;try clear hK K))
  refine HM a.length (fun k=>∀i,(h1:i<a.length)→(h2:i<b.length)→i<k→a[i]=b[i]) (fun k=>⟨80,[(0,AX false a),(1,AX false b),(12,I a.length),(13,I k)],[]⟩) [] 0 [0,1,12,13] 80 DK (fun i _ _ h=>absurd h (Nat.not_lt_zero i)) (by exact zV) ?_;intro k hk hR J hJ;(repeat first | refine zG ?_ | ((with_reducible refine AC ?_);intro K hK) | (refine zM ?_;try clear hK K))
  refine Ac rfl ⟨fun h=> ?_,fun h=> ?_⟩
  ·have hlt:k<a.length:=by simpa using h
   have hlt' :k<b.length:=by omega
   clear h;(have fa:=(And.intro hlt (And.intro hlt' (And.intro @AZ.eq_1 (And.intro @bne.eq_1.{0} @H6))));(repeat first | refine zG ?_ | ((with_reducible refine AC ?_);intro K hK) | (refine zM ?_;try clear hK K));(try clear fa))
   refine Ac rfl ⟨fun h=> ?_,fun h=> ?_⟩
   ·have hne:a[k]≠b[k]:=by simpa [H6] using h
    (repeat first | refine zG ?_ | ((with_reducible refine AC ?_);intro K hK) | (refine zM ?_;try clear hK K))
    refine DL ?_ ?_<;>(first | exact AK | refine zE ?_);have:a≠b:=fun e=>hne (by simp [e])
    simp [this]
   ·have he' :a[k]=b[k]:=by simpa [H6] using h
    clear h;(have fa:=(BK (show k<9223372036854775807 by omega));(repeat first | refine zG ?_ | ((with_reducible refine AC ?_);intro K hK) | (refine zM ?_;try clear hK K));(try clear fa))
    refine hJ _ hlt (fun i h1 h2 h3=> ?_) (by exact zV);by_cases hi:i=k
    ·subst hi;exact he'
    ·exact hR i h1 h2 (by omega)
  ·have hk' :k=a.length:=by have:¬k<a.length:=by simpa using h
                            omega
   subst hk';clear h;(repeat first | refine zG ?_ | ((with_reducible refine AC ?_);intro K hK) | (refine zM ?_;try clear hK K))
   refine DL ?_ ?_<;>(first | exact AK | refine zE ?_);have:a=b:=Ff he fun i h1 h2=>hR i h1 h2 h1
   simp [this]
def Ll {α:Type} (p:α→Bool):List α→Int
 | []=> -1
 | x::l=>if p x=true then 0 else if Ll p l<0 then -1 else Ll p l+1
theorem Ur {α:Type} {p:α→Bool} {l:List α} (h:∀i,(h1:i<l.length)→p l[i]=false):Ll p l= -1:=by
 induction l with
 | nil=>rfl
 | cons x l ih =>
  have h0:=h 0 (by simp);simp only [List.getElem_cons_zero] at h0;have:=ih fun i h1=>by have:=h (i+1) (by simpa using h1);simpa using this
  simp only [Ll,h0,this];rfl
theorem OX {α:Type} {p:α→Bool}:∀{l:List α} {k:Nat} (hk:k<l.length),(∀i,(h1:i<l.length)→i<k→p l[i]=false)→p l[k]=true→Ll p l=k
 | x::l,0,_,_,h=>by simp only [List.getElem_cons_zero] at h;simp [Ll,h]
 | x::l,k+1,hk,h,hp=>by
  have h0:=h 0 (by simp) (by omega);simp only [List.getElem_cons_zero] at h0;have:=OX (l:=l) (k:=k) (by simpa using hk) (fun i h1 h2=>by have:=h (i+1) (by simpa using h1) (by omega);simpa using this) (by simpa using hp);simp only [Ll,h0,this];rw [if_neg (by simp),if_neg (by omega)];omega
theorem XK {α:Type} (p:α→Bool) (l:List α):Ll p l≥0↔l.any p=true:=by
 induction l with
 | nil=>simp [Ll]
 | cons x l ih =>
  simp only [Ll,List.any_cons,Bool.or_eq_true];by_cases h:p x=true
  ·simp [h]
  ·rw [if_neg h];split
   ·rename_i h2;constructor
    ·intro h3;omega
    ·rintro (h3 | h3)
     ·exact absurd h3 h
     ·exact absurd (ih.2 h3) (by omega)
   ·rename_i h2;exact ⟨fun _=> .inr (ih.1 (by omega)),fun _=>by omega⟩
theorem YG {α:Type} (p:α→Bool) (l:List α):decide (Ll p l≥0)=l.any p:=by
 rw [Bool.eq_iff_iff,decide_eq_true_iff];exact XK p l
theorem Ta (a:List Int) (x:Int) (ha:a.length≤1000000):AM Tryz.prog 140 [AN false a,I x] (I (Ll (fun y=>x==y) a)):=by
 refine zc Tryz.ntmps140 ?_;let tb:=Zj;(repeat first | refine zG ?_ | ((with_reducible refine AC ?_);intro K hK) | (refine zM ?_;try clear hK K))
 refine HM a.length (fun k=>∀i,(h1:i<a.length)→i<k→(x==a[i])=false) (fun k=>⟨80,[(0,AN false a),(1,I x),(7,I a.length),(8,I k)],[]⟩) [] 0 [0,1,7,8] 80 DK (fun i _ h=>absurd h (Nat.not_lt_zero i)) (by exact zV) ?_;intro k hk hR J hJ;(repeat first | refine zG ?_ | ((with_reducible refine AC ?_);intro K hK) | (refine zM ?_;try clear hK K))
 refine Ac rfl ⟨fun h=> ?_,fun h=> ?_⟩
 ·have hlt:k<a.length:=by simpa using h
  clear h;(have fa:=hlt;(repeat first | refine zG ?_ | ((with_reducible refine AC ?_);intro K hK) | (refine zM ?_;try clear hK K));(try clear fa))
  refine Ac rfl ⟨fun h=> ?_,fun h=> ?_⟩
  ·(repeat first | refine zG ?_ | ((with_reducible refine AC ?_);intro K hK) | (refine zM ?_;try clear hK K))
   refine DL ?_ ?_<;>(first | exact AK | refine zE ?_);rw [OX hlt hR h]
  ·(have fa:=(BK (show k<9223372036854775807 by omega));(repeat first | refine zG ?_ | ((with_reducible refine AC ?_);intro K hK) | (refine zM ?_;try clear hK K));(try clear fa))
   refine hJ _ hlt (fun i h1 h3=> ?_) (by exact zV);by_cases hi:i=k
   ·subst hi;exact h
   ·exact hR i h1 (by omega)
 ·have hk' :k=a.length:=by have:¬k<a.length:=by simpa using h
                           omega
  subst hk';clear h;(repeat first | refine zG ?_ | ((with_reducible refine AC ?_);intro K hK) | (refine zM ?_;try clear hK K))
  refine DL ?_ ?_<;>(first | exact AK | refine zE ?_);rw [Ur fun i h1=>hR i h1 h1]
theorem N3 (a:List Int) (x:Int) (ha:a.length≤1000000):AM Tryz.prog 90 [AN false a,I x] (B (a.any fun y=>x==y)):=by
 refine zc Tryz.ntmps90 ?_;let tb:=gS;(repeat first | refine zG ?_ | ((with_reducible refine AC ?_);intro K hK) | (refine zM ?_;try clear hK K))
 (refine zW (Ta a x ha) ?_)
 (repeat first | refine zG ?_ | ((with_reducible refine AC ?_);intro K hK) | (refine zM ?_;try clear hK K))
 refine DL ?_ ?_<;>(first | exact AK | refine zE ?_);rw [YG]
end Go.Proofs.YthblfhgofopcaaaGreat
