/-
  Parts of the proof: RefV, RefW, RefP, ConM.
-/
import Derived.Test.YthblfhgofopcaaaGreatSH13
import Derived.Test.YthblfhgofopcaaaGreatSH14
import Derived.Test.YthblfhgofopcaaaGreatSH23
import Derived.Test.YthblfhgofopcaaaGreatSH11
import Derived.Test.YthblfhgofopcaaaGreatSH15
import Derived.Test.YthblfhgofopcaaaGreatSH24
set_option linter.all false
namespace Go.Proofs.YthblfhgofopcaaaGreat
open Go.RowKit
set_option maxRecDepth 100000
set_option maxHeartbeats 2000000
theorem RA {X:List Int} {z:Int} (h0:0≤z) (h1:z<(X.length:Int)) (hX:∀i,-1000000000≤X.getD i 0∧X.getD i 0≤1000000000):∃hl:z.toNat<X.length,IntKind.i64.wrap (X[z.toNat]-1)=X.getD z.toNat 0-1∧(X.map I).set z.toNat (I (X.getD z.toNat 0-1))=(DY X z).map I:=by
 have hl:z.toNat<X.length:=by omega
 have e:X[z.toNat]=X.getD z.toNat 0:=by simp [hl]
 have:=hX z.toNat;exact ⟨hl,by rw [e];exact Al (by omega) (by omega),by rw [RM];rfl⟩
theorem Gs (X ks:List Int) {j:Nat} (h:j<ks.length):DY (Ah X (ks.take j)) ks[j]=Ah X (ks.take (j+1)):=by
 unfold Ah;rw [List.take_succ_eq_append_getElem h,List.foldl_append];rfl
def Sb (X:List Int):Prop:=∀i,0≤X.getD i 0∧X.getD i 0≤1000
section
theorem cW {c:Cx} {h:HF} {x:AV} {y:Value} (k:AS c h x y):AS c h x.low y:=k.low rfl fun f b hs=>⟨hs.1,hs.2.1,by rcases hs.2.2 with h|h|⟨_,h⟩<;>simp [h]⟩
theorem E3 {P:Program} {f:Nat} {ys:List AV} {res:AV} (h:Bb P f ys [] fun x hl=>x.low=res∧hl=[]):AM P f ys res:=by
 refine ⟨h.1,fun c vals hn hh hr=>(h.2 c vals hn hh hr).mono ?_⟩;rintro e w' ⟨v,x,hl,c',e1,e2,⟨rfl,rfl⟩,k1,k2,k3⟩;exact ⟨v,x.low,[],c',e1,e2,⟨rfl,rfl⟩,k1,k2,cW k3⟩
end
theorem Ba {P:Program} {f:Nat} {ys:List AV} {res:AV} (h:Bb P f ys [] fun x hl=>An x res∧hl=[]):AM P f ys res:=by
 refine ⟨h.1,fun c vals hn hh hr=>(h.2 c vals hn hh hr).mono ?_⟩;rintro e w' ⟨v,x,hl,c',e1,e2,⟨hx,rfl⟩,k1,k2,k3⟩;exact ⟨v,res,[],c',e1,e2,⟨rfl,rfl⟩,k1,k2,hx _ _ _ k3⟩
end Go.Proofs.YthblfhgofopcaaaGreat

namespace Go.Proofs.YthblfhgofopcaaaGreat
def ET (bag:List Int):Nat→List Gp
 | 0=>[]
 | k+1=>ET bag k++(if bag.getD k 0=1 then [gp 5 k] else if bag.getD k 0=2 then [gp 4 k] else [])
def GR (ks:List Int):Prop:=ks.Pairwise (· <·)
theorem MU:∀{l m:List Int},GR l→GR m→(∀x,x∈l↔x∈m)→l=m
 | [],[],_,_,_=>rfl
 | [],b::m,_,_,h=>absurd ((h b).2 (by simp)) (by simp)
 | a::l,[],_,_,h=>absurd ((h a).1 (by simp)) (by simp)
 | a::l,b::m,hl,hm,h=>by
  have hl' :=List.pairwise_cons.1 hl;have hm' :=List.pairwise_cons.1 hm;have hab:a=b:=by
   rcases List.mem_cons.1 ((h a).1 (by simp)) with e|h1
   ·exact e
   ·rcases List.mem_cons.1 ((h b).2 (by simp)) with e|h2
    ·exact e.symm
    ·have k1:=hm'.1 a h1;have k2:=hl'.1 b h2;omega
  subst hab;rw [MU hl'.2 hm'.2 fun x=>⟨fun hx=> ?_,fun hx=> ?_⟩]
  ·rcases List.mem_cons.1 ((h x).1 (by simp [hx])) with e|h1
   ·subst e;have:=hl'.1 x hx;omega
   ·exact h1
  ·rcases List.mem_cons.1 ((h x).2 (by simp [hx])) with e|h1
   ·subst e;have:=hm'.1 x hx;omega
   ·exact h1
def Ki:Nat→List Int
 | 0=>[]
 | k+1=>Ki k++[(k:Int)]
theorem MG {x:Int}:∀{n:Nat},x∈Ki n↔0≤x∧x<(n:Int)
 | 0=>by simp only [Ki,List.not_mem_nil,false_iff];omega
 | n+1=>by rw [Ki,List.mem_append,MG];simp;omega
theorem Oq:∀n,GR (Ki n)
 | 0=>List.Pairwise.nil
 | n+1=>by
  unfold GR;rw [Ki,List.pairwise_append];exact ⟨Oq n,by simp,fun a ha b hb=>by simp at hb;have:=MG.1 ha;omega⟩
theorem Rv {ks:List Int} (h:GR ks) (p:Int→Bool):GR (ks.filter p):=List.Pairwise.filter p h
theorem Pm {ks:List Int} {n:Nat} (h:GR ks) (hb:D8 n ks):ks=(Ki n).filter fun z=>ks.any fun y=>y==z:=by
 refine MU h (Rv (Oq n) _) fun x=> ?_
 rw [List.mem_filter,MG,List.any_eq_true];constructor
 ·intro hx;exact ⟨hb x hx,x,hx,by simp⟩
 ·rintro ⟨_,y,hy,he⟩;simp at he;subst he;exact hy
def Dm (ks:List Int) (n:Nat):List Int:=A5 (List.replicate n 0) ks
theorem Do (ks:List Int) (n:Nat):(Dm ks n).length=n:=by rw [Dm,Bp];simp
end Go.Proofs.YthblfhgofopcaaaGreat
