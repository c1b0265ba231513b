/-
  Parts of the proof: Hand, SplB.
-/
import Derived.Test.YthblfhgofopcaaaGreatSH13
import Derived.Test.YthblfhgofopcaaaGreatSH20
import Derived.Test.YthblfhgofopcaaaGreatSH19
set_option linter.all false
namespace Go.Proofs.YthblfhgofopcaaaGreat
open Go.RowKit
set_option maxRecDepth 100000
set_option maxHeartbeats 2000000
theorem Dp (zs:List Int) (hz:zs.length≤1000000):Je Tryz.prog 121 [.sl false 1 (zs.map I)] (.rsl 0 1 0 zs.length) [(0, .arr 1 1 (zs.map I))]:=by
 have h1:zs.length≤1000000000000:=by omega
 by_cases he:zs=[]
 ·subst he;refine Mi fun A cap hc=> ?_
  cases A with
  | none =>
   refine zb Tryz.ntmps121 ?_;let tb:=IT;(repeat first | refine zG ?_ | ((with_reducible refine AC ?_);intro K hK) | (refine zM ?_;try clear hK K))
   refine EH ?_;refine ⟨_,BY 2 100 1 1 (by rfl) (by rfl),?_⟩;refine ⟨.inr rfl,?_,[(100,0)],2,BD (by decide) (by decide),?_⟩<;>dsimp only [Dg,Ci]<;>(first | exact AK | refine zE ?_)
  | some a =>
   refine zc Tryz.ntmps121 ?_;let tb:=IT;(repeat first | refine zG ?_ | ((with_reducible refine AC ?_);intro K hK) | (refine zM ?_;try clear hK K))
   refine EH ?_;refine ⟨.inr rfl,?_,[(48,0)],2,BD (by decide) (by decide),?_⟩<;>(first | exact AK | refine zE ?_)
 ·refine zc Tryz.ntmps121 ?_;let tb:=IT;have he' :(zs.map I≠[])=True:=by simp [he]
  (have fa:=(And.intro he' h1);(repeat first | refine zG ?_ | ((with_reducible refine AC ?_);intro K hK) | (refine zM ?_;try clear hK K));(try clear fa))
  refine EH ?_;refine ⟨.inr rfl,?_,[(48,0)],2,BD (by decide) (by decide),?_⟩<;>(first | exact AK | refine zE ?_)
theorem GU (zs:List Gp) (hz:zs.length≤1000000):Je Tryz.prog 91 [.sl false 3 (zs.map AZ)] (.rsl 0 1 0 zs.length) [(0, .arr 1 3 (zs.map AZ))]:=by
 have h1:zs.length≤1000000000000:=by omega
 by_cases he:zs=[]
 ·subst he;refine Mi fun A cap hc=> ?_
  cases A with
  | none =>
   refine zb Tryz.ntmps91 ?_;let tb:=Pp;(repeat first | refine zG ?_ | ((with_reducible refine AC ?_);intro K hK) | (refine zM ?_;try clear hK K))
   refine EH ?_;refine ⟨_,BY 2 100 1 3 (by rfl) (by rfl),?_⟩;refine ⟨.inr rfl,?_,[(100,0)],2,BD (by decide) (by decide),?_⟩<;>dsimp only [Dg,Ci]<;>(first | exact AK | refine zE ?_)
  | some a =>
   refine zc Tryz.ntmps91 ?_;let tb:=Pp;(repeat first | refine zG ?_ | ((with_reducible refine AC ?_);intro K hK) | (refine zM ?_;try clear hK K))
   refine EH ?_;refine ⟨.inr rfl,?_,[(48,0)],2,BD (by decide) (by decide),?_⟩<;>(first | exact AK | refine zE ?_)
 ·refine zc Tryz.ntmps91 ?_;let tb:=Pp;have he' :(zs.map AZ≠[])=True:=by simp [he]
  (have fa:=(And.intro he' h1);(repeat first | refine zG ?_ | ((with_reducible refine AC ?_);intro K hK) | (refine zM ?_;try clear hK K));(try clear fa))
  refine EH ?_;refine ⟨.inr rfl,?_,[(48,0)],2,BD (by decide) (by decide),?_⟩<;>(first | exact AK | refine zE ?_)
theorem Xu (h:Hd) (h1:h.bag.length≤1000000) (h2:h.me.length≤1000000):Je Tryz.prog 57 [Cb false h] (.agg [.rsl 0 1 0 h.bag.length, .rsl 1 1 0 h.me.length]) [(0, .arr 1 1 (h.bag.map I)),(1, .arr 1 3 (h.me.map AZ))]:=by
 refine zc Tryz.ntmps57 ?_;let tb:=gN;(repeat first | refine zG ?_ | ((with_reducible refine AC ?_);intro K hK) | (refine zM ?_;try clear hK K))
 (refine vO (Dp h.bag h1) ?_)
 (repeat first | refine zG ?_ | ((with_reducible refine AC ?_);intro K hK) | (refine zM ?_;try clear hK K))
 (refine vO (GU h.me h2) ?_)
 (repeat first | refine zG ?_ | ((with_reducible refine AC ?_);intro K hK) | (refine zM ?_;try clear hK K))
 refine EH ?_;refine ⟨.inr rfl,?_,[(64,0),(112,1)],2,BD (by decide) (by decide),?_⟩<;>(first | exact AK | refine zE ?_)
theorem Ej (h:Hd) (h1:h.bag.length≤1000000) (h2:h.me.length≤1000000):Je Tryz.prog 30 [Cb false h] (.agg [.rsl 0 1 0 h.bag.length, .rsl 1 1 0 h.me.length]) [(0, .arr 1 1 (h.bag.map I)),(1, .arr 1 3 (h.me.map AZ))]:=by
 have l1:h.bag.length≤1000000000000:=by omega
 have l2:h.me.length≤1000000000000:=by omega
 refine zc Tryz.ntmps30 ?_;let tb:=gC;(have fa:=(And.intro l1 l2);(repeat first | refine zG ?_ | ((with_reducible refine AC ?_);intro K hK) | (refine zM ?_;try clear hK K));(try clear fa))
 refine EH ?_;refine ⟨.inr rfl,?_,[(32,0),(96,1)],2,BD (by decide) (by decide),?_⟩<;>(first | exact AK | refine zE ?_)
theorem Nz (a b:List Int) (ha:a.length≤1000000):AM Tryz.prog 95 [AN false a,AN false b] (B (decide (a=b))):=by
 refine zc Tryz.ntmps95 ?_;let tb:=gZ;(repeat first | refine zG ?_ | ((with_reducible refine AC ?_);intro K hK) | (refine zM ?_;try clear hK K))
 refine HM a.length (fun k=>k≤b.length∧∀i,(h1:i<a.length)→(h2:i<b.length)→i<k→a[i]=b[i]) (fun k=>⟨80,[(0,AN false a),(1,AN false b),(5,I k)],[]⟩) [] 0 [0,1,5] 80 DK ⟨Nat.zero_le _,fun i _ _ h=>absurd h (Nat.not_lt_zero i)⟩ (by exact zV) ?_;rintro k hk ⟨hkb,hR⟩ J hJ;by_cases hlt:k<a.length
 ·have e1:decide (k<a.length)=true:=by simp [hlt]
  by_cases hlt' :k<b.length
  ·have e2:decide (k<b.length)=true:=by simp [hlt']
   (have fa:=(And.intro e1 (And.intro e2 (And.intro hlt hlt')));(repeat first | refine zG ?_ | ((with_reducible refine AC ?_);intro K hK) | (refine zM ?_;try clear hK K));(try clear fa))
   refine Ac rfl ⟨fun h=> ?_,fun h=> ?_⟩
   ·have hne:a[k]≠b[k]:=by simpa using h
    (repeat first | refine zG ?_ | ((with_reducible refine AC ?_);intro K hK) | (refine zM ?_;try clear hK K))
    refine DL ?_ ?_<;>(first | exact AK | refine zE ?_);have:a≠b:=fun e=>hne (by simp [e])
    simp [this]
   ·have he' :a[k]=b[k]:=by simpa using h
    clear h;(have fa:=(BK (show k<9223372036854775807 by omega));(repeat first | refine zG ?_ | ((with_reducible refine AC ?_);intro K hK) | (refine zM ?_;try clear hK K));(try clear fa))
    refine hJ _ hlt ⟨hlt',fun i h1 h2 h3=> ?_⟩ (by exact zV);by_cases hi:i=k
    ·subst hi;exact he'
    ·exact hR i h1 h2 (by omega)
  ·have e2:decide (k<b.length)=false:=by simp [hlt']
   (have fa:=(And.intro e1 e2);(repeat first | refine zG ?_ | ((with_reducible refine AC ?_);intro K hK) | (refine zM ?_;try clear hK K));(try clear fa))
   refine DL ?_ ?_<;>(first | exact AK | refine zE ?_);have h1:a.length≠b.length:=by omega
   have h2:a≠b:=fun e=>h1 (by rw [e])
   simp [h2];omega
 ·have e1:decide (k<a.length)=false:=by simp [hlt]
  (have fa:=e1;(repeat first | refine zG ?_ | ((with_reducible refine AC ?_);intro K hK) | (refine zM ?_;try clear hK K));(try clear fa))
  refine DL ?_ ?_<;>(first | exact AK | refine zE ?_);by_cases hl:a.length=b.length
  ·have:a=b:=Ff hl fun i h1 h2=>hR i h1 h2 (by omega)
   simp [this]
  ·have h2:a≠b:=fun e=>hl (by rw [e])
   simp [h2];omega
theorem FO (a b:List Gp) (ha:a.length≤1000000):AM Tryz.prog 96 [AX false a,AX false b] (B (decide (a=b))):=by
 refine zc Tryz.ntmps96 ?_;let tb:=gD;(repeat first | refine zG ?_ | ((with_reducible refine AC ?_);intro K hK) | (refine zM ?_;try clear hK K))
 refine Ac rfl ⟨fun h=> ?_,fun h=> ?_⟩
 ·have hne:¬a.length=b.length:=by simp at h;omega
  (repeat first | refine zG ?_ | ((with_reducible refine AC ?_);intro K hK) | (refine zM ?_;try clear hK K))
  refine DL ?_ ?_<;>(first | exact AK | refine zE ?_);have:a≠b:=fun e=>hne (by rw [e])
  simp [this]
 ·have he:a.length=b.length:=by simp at h;omega
  clear h;(repeat first | refine zG ?_ | ((with_reducible refine AC ?_);intro K hK) | (refine zM ?_;try clear hK K))
  refine HM a.length (fun k=>∀i,(h1:i<a.length)→(h2:i<b.length)→i<k→a[i]=b[i]) (fun k=>⟨80,[(0,AX false a),(1,AX false b),(5,I k)],[]⟩) [] 0 [0,1,5] 80 DK (fun i _ _ h=>absurd h (Nat.not_lt_zero i)) (by exact zV) ?_;intro k hk hR J hJ;(repeat first | refine zG ?_ | ((with_reducible refine AC ?_);intro K hK) | (refine zM ?_;try clear hK K))
  refine Ac rfl ⟨fun h=> ?_,fun h=> ?_⟩
  ·have hlt:k<a.length:=by simpa using h
   have hlt' :k<b.length:=by omega
   clear h;(have fa:=(And.intro hlt (And.intro hlt' (And.intro @AZ.eq_1 (And.intro @bne.eq_1.{0} @H6))));(repeat first | refine zG ?_ | ((with_reducible refine AC ?_);intro K hK) | (refine zM ?_;try clear hK K));(try clear fa))
   refine Ac rfl ⟨fun h=> ?_,fun h=> ?_⟩
   ·have hne:a[k]≠b[k]:=by simpa [H6] using h
    (repeat first | refine zG ?_ | ((with_reducible refine AC ?_);intro K hK) | (refine zM ?_;try clear hK K))
    refine DL ?_ ?_<;>(first | exact AK | refine zE ?_);have:a≠b:=fun e=>hne (by simp [e])
    simp [this]
   ·have he' :a[k]=b[k]:=by simpa [H6] using h
    clear h;(have fa:=(BK (show k<9223372036854775807 by omega));(repeat first | refine zG ?_ | ((with_reducible refine AC ?_);intro K hK) | (refine zM ?_;try clear hK K));(try clear fa))
    refine hJ _ hlt (fun i h1 h2 h3=> ?_) (by exact zV);by_cases hi:i=k
    ·subst hi;exact he'
    ·exact hR i h1 h2 (by omega)
  ·have hk' :k=a.length:=by have:¬k<a.length:=by simpa using h
                            omega
   subst hk';clear h;(repeat first | refine zG ?_ | ((with_reducible refine AC ?_);intro K hK) | (refine zM ?_;try clear hK K))
   refine DL ?_ ?_<;>(first | exact AK | refine zE ?_);have:a=b:=Ff he fun i h1 h2=>hR i h1 h2 h1
   simp [this]
theorem Sv (a b:Hd) (h1:a.bag.length≤1000000) (h2:a.me.length≤1000000):AM Tryz.prog 31 [Cb false a,Cb false b] (B (decide (a.bag=b.bag)&&decide (a.me=b.me))):=by
 refine zc Tryz.ntmps31 ?_;let tb:=fQ;(repeat first | refine zG ?_ | ((with_reducible refine AC ?_);intro K hK) | (refine zM ?_;try clear hK K))
 (refine zW (Nz a.bag b.bag h1) ?_)
 by_cases hb:a.bag=b.bag
 ·have e:decide (a.bag=b.bag)=true:=by simp [hb]
  (have fa:=e;(repeat first | refine zG ?_ | ((with_reducible refine AC ?_);intro K hK) | (refine zM ?_;try clear hK K));(try clear fa))
  (refine zW (FO a.me b.me h2) ?_)
  (have fa:=e;(repeat first | refine zG ?_ | ((with_reducible refine AC ?_);intro K hK) | (refine zM ?_;try clear hK K));(try clear fa))
  refine DL ?_ ?_<;>(have fa:=(And.intro e Bool.true_and);first | exact AK | (refine zE ?_;try clear fa))
 ·have e:decide (a.bag=b.bag)=false:=by simp [hb]
  (have fa:=e;(repeat first | refine zG ?_ | ((with_reducible refine AC ?_);intro K hK) | (refine zM ?_;try clear hK K));(try clear fa))
  refine DL ?_ ?_<;>(have fa:=(And.intro e Bool.false_and);first | exact AK | (refine zE ?_;try clear fa))
def JM (zs:List Int):Int:=IntKind.i64.wrap zs.sum
theorem KR (zs:List Int) {k:Nat} (h:k<zs.length):IntKind.i64.wrap (JM (zs.take k)+zs[k])=JM (zs.take (k+1)):=by
 unfold JM;rw [List.take_succ_eq_append_getElem h,List.sum_append,Rm];simp
theorem EN:∀{zs:List Int} {m:Int},(∀z∈zs,0≤z∧z≤m)→0≤zs.sum∧zs.sum≤zs.length*m
 | [],m,_=>by simp
 | z::zs,m,h=>by
  have h1:=h z (by simp);have:=EN (zs:=zs) (m:=m) fun y hy=>h y (by simp [hy])
  rw [List.sum_cons,List.length_cons];have:((zs.length+1:Nat):Int)*m=zs.length*m+m:=by rw [Int.natCast_add,Int.add_mul];simp
  omega
theorem G6 {zs:List Int} {m:Int} (h:∀z∈zs,0≤z∧z≤m) (hm:m≤1000) (hl:zs.length≤1000):JM zs=zs.sum:=by
 have:=EN h;have h0:(zs.length:Int)*m≤1000*1000:=by
  by_cases hz:0≤m
  ·exact Int.mul_le_mul (by omega) hm hz (by omega)
  ·have:(zs.length:Int)*m≤0:=Int.mul_nonpos_of_nonneg_of_nonpos (by omega) (by omega);omega
 exact Al (by omega) (by omega)
theorem Oz (zs:List Int) (hz:zs.length≤1000000):AM Tryz.prog 104 [AN false zs] (I (JM zs)):=by
 refine zc Tryz.ntmps104 ?_;let tb:=Y5;(repeat first | refine zG ?_ | ((with_reducible refine AC ?_);intro K hK) | (refine zM ?_;try clear hK K))
 refine HM zs.length (fun _=>True) (fun k=>⟨80,[(3,I (JM (zs.take k))),(6,AN false zs),(7,I zs.length),(8,I k)],[]⟩) [] 0 [3,6,7,8] 80 DK trivial (by exact zV) ?_;intro k hk _ J hJ;(repeat first | refine zG ?_ | ((with_reducible refine AC ?_);intro K hK) | (refine zM ?_;try clear hK K))
 refine Ac rfl ⟨fun h=> ?_,fun h=> ?_⟩
 ·have hlt:k<zs.length:=by simpa using h
  clear h;(have fa:=(And.intro hlt (And.intro (KR zs hlt) (BK (show k<9223372036854775807 by omega))));(repeat first | refine zG ?_ | ((with_reducible refine AC ?_);intro K hK) | (refine zM ?_;try clear hK K));(try clear fa))
  refine hJ _ hlt trivial (by exact zV)
 ·have hk:k=zs.length:=by have:¬k<zs.length:=by simpa using h
                          omega
  subst hk;clear h;(repeat first | refine zG ?_ | ((with_reducible refine AC ?_);intro K hK) | (refine zM ?_;try clear hK K))
  refine DL ?_ ?_<;>(first | exact AK | refine zE ?_)
theorem IZ (zs:List Int) (hz:zs.length≤1000000):AM Tryz.prog 120 [AN false zs] (I (JM zs)):=by
 refine zc Tryz.ntmps120 ?_;let tb:=bI;(repeat first | refine zG ?_ | ((with_reducible refine AC ?_);intro K hK) | (refine zM ?_;try clear hK K))
 refine HM zs.length (fun _=>True) (fun k=>⟨80,[(0,AN false zs),(3,I (JM (zs.take k))),(4,I k)],[]⟩) [] 0 [0,3,4] 80 DK trivial (by exact zV) ?_;intro k hk _ J hJ;(repeat first | refine zG ?_ | ((with_reducible refine AC ?_);intro K hK) | (refine zM ?_;try clear hK K))
 refine Ac rfl ⟨fun h=> ?_,fun h=> ?_⟩
 ·have hlt:k<zs.length:=by simpa using h
  clear h;(have fa:=(And.intro hlt (And.intro (KR zs hlt) (BK (show k<9223372036854775807 by omega))));(repeat first | refine zG ?_ | ((with_reducible refine AC ?_);intro K hK) | (refine zM ?_;try clear hK K));(try clear fa))
  refine hJ _ hlt trivial (by exact zV)
 ·have hk:k=zs.length:=by have:¬k<zs.length:=by simpa using h
                          omega
  subst hk;clear h;(repeat first | refine zG ?_ | ((with_reducible refine AC ?_);intro K hK) | (refine zM ?_;try clear hK K))
  refine DL ?_ ?_<;>(first | exact AK | refine zE ?_)
end Go.Proofs.YthblfhgofopcaaaGreat

namespace Go.Proofs.YthblfhgofopcaaaGreat
def DY (bag:List Int) (z:Int):List Int:=bag.set z.toNat (bag.getD z.toNat 0-1)
def Ah (bag:List Int) (ks:List Int):List Int:=ks.foldl DY bag
def BX:List Int→List Int→Option (List Int)
 | bag,[]=>some bag
 | bag,k::ks=>if (DY bag k).getD k.toNat 0<0 then none else BX (DY bag k) ks
def Bg (n:Nat) (bag:List Int):Prop:=bag.length=n∧∀i,0≤bag.getD i 0
def D8 (n:Nat) (ks:List Int):Prop:=∀k∈ks,0≤k∧k<(n:Int)
def Cz (ks:List Int) (i:Nat):Int:=(ks.count (i:Int):Int)
theorem BW (k:Int) (ks:List Int) (i:Nat):Cz (k::ks) i=Cz ks i+if k=(i:Int) then 1 else 0:=by
 unfold Cz;rw [List.count_cons];by_cases h:k=(i:Int)
 ·simp [h]
 ·simp [h]
theorem Ai (ks:List Int) (i:Nat):0≤Cz ks i:=by unfold Cz;omega
theorem Pb:∀(l:List Int) (i:Nat) (v:Int),i<l.length→(l.set i v).sum=l.sum-l.getD i 0+v
 | [],i,v,h=>absurd h (Nat.not_lt_zero i)
 | x::l,0,v,_=>by simp;omega
 | x::l,i+1,v,h=>by
  have:=Pb l i v (by simpa using h);simp only [List.set_cons_succ,List.sum_cons,List.getD_cons_succ];omega
theorem RP (l:List Int) (i j:Nat) (v:Int) (h:i<l.length):(l.set i v).getD j 0=if i=j then v else l.getD j 0:=by
 simp only [List.getD_eq_getElem?_getD,List.getElem?_set];split
 ·rename_i he;subst he;simp [h]
 ·rfl
theorem Ee (bag:List Int) (z:Int):(DY bag z).length=bag.length:=by simp [DY]
theorem JZ {bag:List Int} {z:Int} (h0:0≤z) (h1:z<(bag.length:Int)) (i:Nat):(DY bag z).getD i 0=bag.getD i 0-if z=(i:Int) then 1 else 0:=by
 unfold DY;rw [RP _ _ _ _ (by omega)];by_cases h:z=(i:Int)
 ·subst h;simp
 ·rw [if_neg (by omega),if_neg h];simp
theorem Xj {bag:List Int} {z:Int} (h0:0≤z) (h1:z<(bag.length:Int)):(DY bag z).sum=bag.sum-1:=by
 unfold DY;rw [Pb _ _ _ (by omega)];omega
theorem Bn:∀(ks bag:List Int),(Ah bag ks).length=bag.length
 | [],bag=>rfl
 | k::ks,bag=>by show (Ah (DY bag k) ks).length=_;rw [Bn ks,Ee]
theorem BF:∀(ks bag:List Int),D8 bag.length ks→∀i,(Ah bag ks).getD i 0=bag.getD i 0-Cz ks i
 | [],bag,_,i=>by simp [Ah,Cz]
 | k::ks,bag,h,i=>by
  show (Ah (DY bag k) ks).getD i 0=_;have hk:=h k (by simp);rw [BF ks _ (fun z hz=>by rw [Ee];exact h z (by simp [hz])) i,JZ hk.1 hk.2,BW];omega
theorem Ck:∀(ks bag:List Int),D8 bag.length ks→(Ah bag ks).sum=bag.sum-ks.length
 | [],bag,_=>by simp [Ah]
 | k::ks,bag,h=>by
  show (Ah (DY bag k) ks).sum=_;have hk:=h k (by simp);rw [Ck ks _ (fun z hz=>by rw [Ee];exact h z (by simp [hz])),Xj hk.1 hk.2];simp;omega
theorem C5:∀(ks bag:List Int),D8 bag.length ks→(∀i,0≤bag.getD i 0)→
  (BX bag ks=some (Ah bag ks)∧∀i,Cz ks i≤bag.getD i 0)∨(BX bag ks=none∧∃i,bag.getD i 0<Cz ks i)
 | [],bag,_,h0=> .inl ⟨rfl,fun i=>by have:=h0 i;simpa [Cz] using this⟩
 | k::ks,bag,h,h0=>by
  have hk:=h k (by simp);have hg:=JZ hk.1 hk.2;have hh:D8 (DY bag k).length ks:=fun z hz=>by rw [Ee];exact h z (by simp [hz])
  by_cases hl:(DY bag k).getD k.toNat 0<0
  ·refine .inr ⟨by simp only [BX];rw [if_pos hl],k.toNat,?_⟩;rw [hg,if_pos (by omega)] at hl;have:=Ai ks k.toNat;rw [BW,if_pos (by omega)];omega
  ·have h0' :∀i,0≤(DY bag k).getD i 0:=fun i=>by
    by_cases hi:i=k.toNat
    ·rw [hi];omega
    ·rw [hg,if_neg (by omega)];have:=h0 i;omega
   simp only [BX];rw [if_neg hl];rcases C5 ks (DY bag k) hh h0' with ⟨h1,h2⟩ | ⟨h1,i,h2⟩
   ·exact .inl ⟨h1,fun i=>by have:=h2 i;rw [hg] at this;rw [BW];omega⟩
   ·exact .inr ⟨h1,i,by rw [hg] at h2;rw [BW];omega⟩
theorem Bg.dec {n:Nat} {bag ks:List Int} (h:Bg n bag) (hk:D8 n ks) (hc:∀i,Cz ks i≤bag.getD i 0):Bg n (Ah bag ks):=by
 refine ⟨by rw [Bn];exact h.1,fun i=> ?_⟩;rw [BF _ _ (by rw [h.1];exact hk)];have:=hc i;omega
def AB:List Int→Nat
 | []=>0
 | z::l=>if z=0 then AB l+1 else 0
theorem BG:∀l,AB l≤l.length
 | []=>Nat.le_refl _
 | z::l=>by unfold AB;split;have:=BG l;simp;omega;simp
theorem Bf:∀(l:List Int) (i:Nat),i<AB l→l.getD i 0=0
 | [],i,h=>absurd h (Nat.not_lt_zero i)
 | z::l,i,h=>by
  unfold AB at h;split at h
  ·rename_i hz;cases i with
   | zero=>simpa using hz
   | succ i=>rw [List.getD_cons_succ];exact Bf l i (by omega)
  ·omega
theorem Bu:∀(l:List Int),AB l<l.length→l.getD (AB l) 0≠0
 | [],h=>absurd h (Nat.not_lt_zero _)
 | z::l,h=>by
  unfold AB at h ⊢;split
  ·rename_i hz;rw [if_pos hz] at h;rw [List.getD_cons_succ];exact Bu l (by simp at h;omega)
  ·rename_i hz;simpa using hz
theorem GL {l:List Int} (h:AB l=l.length) (i:Nat):l.getD i 0=0:=by
 by_cases hi:i<l.length
 ·exact Bf l i (by omega)
 ·rw [List.getD_eq_getElem?_getD,List.getElem?_eq_none (by omega)];rfl
def Di (g:Gp) (i:Nat):Int:=Cz (AI g.wh g.kd) i
def B7:List Gp→Nat→Int
 | [],_=>0
 | g::l,i=>Di g i+B7 l i
theorem Ds (g:Gp) (i:Nat):0≤Di g i:=Ai _ _
theorem FG:∀(l:List Gp) (i:Nat),0≤B7 l i
 | [],_=>Int.le_refl _
 | g::l,i=>by have:=Ds g i;have:=FG l i;simp only [B7];omega
theorem EK {l m:List Gp} (h:l.Perm m) (i:Nat):B7 l i=B7 m i:=by
 induction h with
 | nil=>rfl
 | cons x _ ih=>simp only [B7,ih]
 | swap x y l=>simp only [B7];omega
 | trans _ _ h1 h2=>rw [h1,h2]
theorem RC:∀(l m:List Gp) (i:Nat),B7 (l++m) i=B7 l i+B7 m i
 | [],m,i=>by simp [B7]
 | g::l,m,i=>by simp only [List.cons_append,B7,RC l m i];omega
theorem EY {l:List Gp} {g:Gp} (h:g∈l) (i:Nat):Di g i≤B7 l i:=by
 induction l with
 | nil=>cases h
 | cons x l ih =>
  simp only [B7];rcases List.mem_cons.1 h with rfl | h
  ·have:=FG l i;omega
  ·have:=ih h;have:=Ds x i;omega
theorem Mu:∀{l:List Gp} {i:Nat},0<B7 l i→∃g∈l,0<Di g i
 | [],i,h=>absurd h (by simp [B7])
 | g::l,i,h=>by
  by_cases hg:0<Di g i
  ·exact ⟨g,by simp,hg⟩
  ·obtain ⟨x,hx,h2⟩:=Mu (l:=l) (i:=i) (by have:=Ds g i;simp only [B7] at h;omega);exact ⟨x,by simp [hx],h2⟩
abbrev gp (w k:Int):Gp:=⟨w,k,false⟩
section
variable (n:Nat) (rn:Int→Bool)
def FJ (g:Gp):Prop:=g.op=false∧0≤g.kd∧g.kd<(n:Int)∧(g.wh=2∨(g.wh=1∧rn g.kd=true))
def C7:Prop:=∀k,rn k=true→0≤k∧k+2<(n:Int)
structure KJ (bag:List Int) (x:List Gp):Prop where
 sg:SG x
 me:∀g∈x,FJ n rn g
 ct:∀i,B7 x i=bag.getD i 0
end
theorem Fu (k:Int):AI 2 k=[k,k,k]:=by simp [AI]
theorem Fr (k:Int):AI 1 k=[k,k+1,k+2]:=by simp [AI]
theorem HC (k:Int):AI 4 k=[k,k]:=by simp [AI]
theorem DJ (k:Int) (o:Bool) (i:Nat):Di ⟨2,k,o⟩ i=if k=(i:Int) then 3 else 0:=by
 simp only [Di,Fu,BW];simp only [Cz];split<;>simp
theorem Dc (k:Int) (o:Bool) (i:Nat):Di ⟨4,k,o⟩ i=if k=(i:Int) then 2 else 0:=by
 simp only [Di,HC,BW];simp only [Cz];split<;>simp
theorem B9 (k:Int) (o:Bool) (i:Nat):Di ⟨1,k,o⟩ i=if k=(i:Int)∨k+1=(i:Int)∨k+2=(i:Int) then 1 else 0:=by
 simp only [Di,Fr,BW];simp only [Cz,List.count_nil];repeat' split
 all_goals omega
def ES (rn:Int→Bool) (k:Int):List Gp:=gp 2 k::if rn k=true then [gp 1 k] else []
def DB (g:Gp) (out ls:List (List Gp)):List (List Gp):=ls.foldl (fun out l=>E0 out (BN l g)) out
def Cc (rn:Int→Bool):Nat→List Int→List (List Gp)
 | 0,_=>[]
 | f+1,bag=>if AB bag=bag.length then [[]] else
  (ES rn (AB bag)).foldl (fun out g=>match BX bag (AI g.wh g.kd) with
   | none=>out
   | some r=>DB g out (Cc rn f r)) []
theorem NW {l:List Gp} {g:Gp} (h:Cl l) (hg:g.op=false):Cl (BN l g):=fun x hx=>by
 rcases List.mem_cons.1 ((Br l g).subset hx) with rfl | hx
 ·exact hg
 ·exact h x hx
theorem KO {g:Gp} (hg:g.op=false):∀(ls out:List (List Gp)),SL out→(∀x∈out,Cl x)→(∀l∈ls,Cl l)→
  SL (DB g out ls)∧(∀x∈DB g out ls,Cl x)∧∀x,x∈DB g out ls↔x∈out∨∃l∈ls,x=BN l g
 | [],out,h1,h2,_=>⟨h1,h2,fun x=>by simp [DB]⟩
 | l::ls,out,h1,h2,h3=>by
  have hl:=NW (h3 l (by simp)) hg;obtain ⟨k1,k2⟩:=T4 h1 h2 hl;obtain ⟨j1,j2,j3⟩:=KO hg ls (E0 out (BN l g)) k1 (fun x hx=>by
   rcases (k2 x).1 hx with rfl | hx
   ·exact hl
   ·exact h2 x hx) (fun m hm=>h3 m (by simp [hm]))
  refine ⟨j1,j2,fun x=>(j3 x).trans ?_⟩;rw [k2];constructor
  ·rintro ((h | h) | ⟨m,hm,h⟩)
   ·exact .inr ⟨l,by simp,h⟩
   ·exact .inl h
   ·exact .inr ⟨m,by simp [hm],h⟩
  ·rintro (h | ⟨m,hm,h⟩)
   ·exact .inl (.inr h)
   ·rcases List.mem_cons.1 hm with rfl | hm
    ·exact .inl (.inl h)
    ·exact .inr ⟨m,hm,h⟩
section
variable {n:Nat} {rn:Int→Bool}
theorem FJ.tiles {g:Gp} (hr:C7 n rn) (h:FJ n rn g):D8 n (AI g.wh g.kd):=by
 obtain ⟨_,h0,h1,h2⟩:=h;rcases h2 with h2 | ⟨h2,h3⟩
 ·rw [h2,Fu];intro z hz;simp at hz;omega
 ·have:=hr _ h3;rw [h2,Fr];intro z hz;simp at hz;omega
theorem FJ.len {g:Gp} (h:FJ n rn g):(AI g.wh g.kd).length=3:=by
 rcases h.2.2.2 with h2 | ⟨h2,_⟩
 ·rw [h2,Fu];rfl
 ·rw [h2,Fr];rfl
theorem FJ.at_kd {g:Gp} (h:FJ n rn g):0<Di g g.kd.toNat:=by
 obtain ⟨_,h0,h1,h2⟩:=h;have e:((g.kd.toNat:Nat):Int)=g.kd:=by omega
 rcases h2 with h2 | ⟨h2,h3⟩
 ·show 0<Cz (AI g.wh g.kd) g.kd.toNat;rw [h2,Fu,BW,if_pos e.symm];have:=Ai [g.kd,g.kd] g.kd.toNat;omega
 ·show 0<Cz (AI g.wh g.kd) g.kd.toNat;rw [h2,Fr,BW,if_pos e.symm];have:=Ai [g.kd+1,g.kd+2] g.kd.toNat;omega
theorem FJ.low {g:Gp} {i:Nat} (h:FJ n rn g) (hc:0<Di g i):g.kd≤(i:Int):=by
 obtain ⟨_,h0,h1,h2⟩:=h;rcases h2 with h2 | ⟨h2,h3⟩
 ·rw [show g=⟨2,g.kd,g.op⟩ by rw [←h2]] at hc;rw [DJ] at hc;split at hc
  ·omega
  ·omega
 ·rw [show g=⟨1,g.kd,g.op⟩ by rw [←h2]] at hc;rw [B9] at hc;split at hc
  ·omega
  ·omega
theorem NF {g:Gp} {k:Int}:g∈ES rn k↔g.op=false∧g.kd=k∧(g.wh=2∨(g.wh=1∧rn k=true)):=by
 unfold ES;obtain ⟨w,q,o⟩:=g;rw [List.mem_cons];by_cases h:rn k=true
 ·rw [if_pos h,List.mem_singleton];simp only [gp,Gp.mk.injEq,h,and_true];constructor
  ·rintro (⟨h1,h2,h3⟩ | ⟨h1,h2,h3⟩)<;>simp [h1,h2,h3]
  ·rintro ⟨h1,h2,h3 | h3⟩<;>simp [h1,h2,h3]
 ·rw [if_neg h];simp only [gp,Gp.mk.injEq,h,and_false,or_false,List.not_mem_nil,Bool.false_eq_true];constructor
  ·rintro ⟨h1,h2,h3⟩;simp [h1,h2,h3]
  ·rintro ⟨h1,h2,h3⟩;simp [h1,h2,h3]
theorem DQ:∀{l:List Int},(∀i,0≤l.getD i 0)→0≤l.sum
 | [],_=>by simp
 | z::l,h=>by
  have h0:=h 0;have:=DQ (l:=l) fun i=>by simpa using h (i+1)
  simp at h0 ⊢;omega
theorem KJ.cl {bag:List Int} {x:List Gp} (h:KJ n rn bag x):Cl x:=fun g hg=>(h.me g hg).1
theorem KJ.first {bag:List Int} {x:List Gp} (hb:Bg n bag) (h:KJ n rn bag x) (hk:AB bag≠bag.length):∃g∈x,g∈ES rn (AB bag):=by
 have hlt:AB bag<bag.length:=Nat.lt_of_le_of_ne (BG bag) hk;have hne:=Bu bag hlt;have h0:=hb.2 (AB bag);have hct:=h.ct (AB bag);obtain ⟨g,hg,hc⟩:=Mu (l:=x) (i:=AB bag) (by omega);have hm:=h.me g hg;have h1:=hm.low hc;have h2:g.kd=(AB bag:Int):=by
  rcases Int.lt_or_eq_of_le h1 with h3 | h3
  ·have k1:=hm.at_kd;have k2:=EY hg g.kd.toNat;rw [h.ct,Bf bag _ (by have:=hm.2.1;omega)] at k2;omega
  ·exact h3
 exact ⟨g,hg,NF.2 ⟨hm.1,h2,by rw [←h2];exact hm.2.2.2⟩⟩
theorem KK {k:Nat} {g:Gp} (h:g∈ES rn (k:Int)) (hk:k<n):FJ n rn g:=by
 obtain ⟨h1,h2,h3⟩:=NF.1 h;exact ⟨h1,by omega,by omega,by rw [h2];exact h3⟩
theorem KJ.more {bag:List Int} {x:List Gp} {g:Gp} (hr:C7 n rn) (hb:bag.length=n) (hg:FJ n rn g) (h:KJ n rn (Ah bag (AI g.wh g.kd)) x):KJ n rn bag (BN x g):=by
 refine ⟨Ea g h.sg,fun y hy=> ?_,fun i=> ?_⟩
 ·rcases List.mem_cons.1 ((Br x g).subset hy) with rfl | hy
  ·exact hg
  ·exact h.me y hy
 ·rw [EK (Br x g)];have:=h.ct i;rw [BF _ _ (by rw [hb];exact hg.tiles hr)] at this;simp only [B7];rw [this];show Cz _ i+_=_;omega
theorem KJ.fewer {bag:List Int} {x:List Gp} {g:Gp} (hr:C7 n rn) (hb:bag.length=n) (hg:g∈x) (h:KJ n rn bag x) :
  (∀i,Cz (AI g.wh g.kd) i≤bag.getD i 0)∧KJ n rn (Ah bag (AI g.wh g.kd)) (x.erase g)∧BN (x.erase g) g=x:=by
 have hm:=h.me g hg;have hp:=List.perm_cons_erase hg;have hct:∀i,B7 x i=Di g i+B7 (x.erase g) i:=fun i=>by rw [EK hp];rfl
 have hs:SG (x.erase g):=h.sg.sublist List.erase_sublist;refine ⟨fun i=> ?_,⟨hs,fun y hy=>h.me y (List.mem_of_mem_erase hy),fun i=> ?_⟩,?_⟩
 ·have:=EY hg i;rw [h.ct] at this;exact this
 ·rw [BF _ _ (by rw [hb];exact hm.tiles hr)];have:=hct i;rw [h.ct] at this;show _=_-Di g i;omega
 ·exact L9 ((Br _ _).trans hp.symm) (Ea g hs) h.sg (NW (fun y hy=>h.cl y (List.mem_of_mem_erase hy)) hm.1)
def Co (rn:Int→Bool) (f:Nat) (bag:List Int) (out:List (List Gp)) (g:Gp):List (List Gp):=match BX bag (AI g.wh g.kd) with
 | none=>out
 | some r=>DB g out (Cc rn f r)
theorem R7 (hr:C7 n rn):∀(f:Nat) (bag:List Int),Bg n bag→bag.sum<(f:Int)→SL (Cc rn f bag)∧∀x,x∈Cc rn f bag↔KJ n rn bag x
 | 0,bag,hb,hs=>absurd hs (by have:=DQ hb.2;omega)
 | f+1,bag,hb,hs=>by
  unfold Cc;by_cases hk:AB bag=bag.length
  ·rw [if_pos hk];refine ⟨List.pairwise_singleton _ _,fun x=> ?_⟩;rw [List.mem_singleton];constructor
   ·rintro rfl;exact ⟨List.Pairwise.nil,(fun g hg=>by cases hg),fun i=>by rw [GL hk];rfl⟩
   ·intro h;cases x with
    | nil=>rfl
    | cons g x =>
     have k1:=(h.me g (by simp)).at_kd;have k2:=EY (l:=g::x) (g:=g) (by simp) g.kd.toNat;rw [h.ct,GL hk] at k2;omega
  ·rw [if_neg hk];have hlt:AB bag<bag.length:=Nat.lt_of_le_of_ne (BG bag) hk;have step:∀g,g∈ES rn (AB bag)→∀out,SL out→(∀x∈out,Cl x)→SL (Co rn f bag out g)∧(∀x∈Co rn f bag out g,Cl x)∧∀x,x∈Co rn f bag out g↔x∈out∨(g∈x∧KJ n rn bag x):=by
    intro g hg out h1 h2;have hm:FJ n rn g:=KK hg (by rw [←hb.1];exact hlt);have ht:D8 bag.length (AI g.wh g.kd):=by rw [hb.1];exact hm.tiles hr
    unfold Co;rcases C5 _ bag ht hb.2 with ⟨k1,k2⟩ | ⟨k1,i,k2⟩
    ·rw [k1];simp only;have hb' :=hb.dec (hm.tiles hr) k2;have hsum:=Ck _ bag ht;rw [hm.len] at hsum;obtain ⟨j1,j2⟩:=R7 hr f (Ah bag (AI g.wh g.kd)) hb' (by omega);obtain ⟨i1,i2,i3⟩:=KO hm.1 (Cc rn f (Ah bag (AI g.wh g.kd))) out h1 h2 fun l hl=>((j2 l).1 hl).cl
     refine ⟨i1,i2,fun x=>(i3 x).trans ?_⟩;constructor
     ·rintro (h | ⟨l,hl,rfl⟩)
      ·exact .inl h
      ·exact .inr ⟨(Br l g).symm.subset (by simp),((j2 l).1 hl).more hr hb.1 hm⟩
     ·rintro (h | ⟨h3,h4⟩)
      ·exact .inl h
      ·obtain ⟨_,q2,q3⟩:=h4.fewer hr hb.1 h3;exact .inr ⟨x.erase g,(j2 _).2 q2,q3.symm⟩
    ·rw [k1];refine ⟨h1,h2,fun x=>⟨.inl,?_⟩⟩;rintro (h | ⟨h3,h4⟩)
     ·exact h
     ·have:=(h4.fewer hr hb.1 h3).1 i;omega
   have all:∀gs:List Gp,(∀g∈gs,g∈ES rn (AB bag))→∀out,SL out→(∀x∈out,Cl x)→SL (gs.foldl (Co rn f bag) out)∧∀x,x∈gs.foldl (Co rn f bag) out↔x∈out∨((∃g∈gs,g∈x)∧KJ n rn bag x):=by
    intro gs;induction gs with
    | nil=>intro _ out h1 h2;exact ⟨h1,fun x=>by simp⟩
    | cons g gs ih =>
     intro hgs out h1 h2;obtain ⟨s1,s2,s3⟩:=step g (hgs g (by simp)) out h1 h2;obtain ⟨a1,a2⟩:=ih (fun y hy=>hgs y (by simp [hy])) (Co rn f bag out g) s1 s2;refine ⟨a1,fun x=>(a2 x).trans ?_⟩;rw [s3];constructor
     ·rintro ((h | ⟨h3,h4⟩) | ⟨⟨y,hy,h3⟩,h4⟩)
      ·exact .inl h
      ·exact .inr ⟨⟨g,by simp,h3⟩,h4⟩
      ·exact .inr ⟨⟨y,by simp [hy],h3⟩,h4⟩
     ·rintro (h | ⟨⟨y,hy,h3⟩,h4⟩)
      ·exact .inl (.inl h)
      ·rcases List.mem_cons.1 hy with rfl | hy
       ·exact .inl (.inr ⟨h3,h4⟩)
       ·exact .inr ⟨⟨y,hy,h3⟩,h4⟩
   obtain ⟨a1,a2⟩:=all _ (fun g hg=>hg) [] List.Pairwise.nil (fun x hx=>by cases hx);refine ⟨a1,fun x=>(a2 x).trans ?_⟩;constructor
   ·rintro (h | h)
    ·cases h
    ·exact h.2
   ·intro h;obtain ⟨g,h1,h2⟩:=h.first hb hk;exact .inr ⟨⟨g,h2,h1⟩,h⟩
end
end Go.Proofs.YthblfhgofopcaaaGreat
