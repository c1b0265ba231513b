/-
  Parts of the proof: JobD, RefM.
-/
import Derived.Test.YthblfhgofopcaaaGreatSH13
import Derived.Test.YthblfhgofopcaaaGreatSH14
import Derived.Test.YthblfhgofopcaaaGreatTU03
import Derived.Test.YthblfhgofopcaaaGreatTU09
import Derived.Test.YthblfhgofopcaaaGreatTU01
import Derived.Test.YthblfhgofopcaaaGreatSH23
set_option linter.all false
namespace Go.Proofs.YthblfhgofopcaaaGreat
open Go.RowKit
set_option maxRecDepth 100000
set_option maxHeartbeats 2000000
def Hr (su rk:Nat→Int) (w:List Int) (k:Nat):Bool:=decide (0≤su k)&&decide (rk k % 3=w.getD (su k).toNat 0)
def BU (su rk:Nat→Int) (w:List Int):Nat→List Int
 | 0=>[]
 | k+1=>BU su rk w k++if Hr su rk w k=true then [(k:Int)] else []
theorem IE {su rk:Nat→Int} {w:List Int} {z:Int}:∀{n:Nat},z∈BU su rk w n↔∃k,k<n∧Hr su rk w k=true∧z=(k:Int)
 | 0=>by simp [BU]
 | n+1=>by
  rw [BU,List.mem_append,IE (n:=n)];constructor
  ·rintro (⟨k,h1,h2,h3⟩|h)
   ·exact ⟨k,by omega,h2,h3⟩
   ·split at h
    ·rename_i hf;simp at h;exact ⟨n,by omega,hf,h⟩
    ·cases h
  ·rintro ⟨k,h1,h2,h3⟩;by_cases e:k=n
   ·subst e;right;rw [if_pos h2];simp [h3]
   ·left;exact ⟨k,by omega,h2,h3⟩
theorem Fa {su rk:Nat→Int} {w:List Int} (n:Nat):D8 n (BU su rk w n):=fun z hz=>by
 obtain ⟨k,h1,_,rfl⟩:=IE.1 hz;omega
theorem V0 {su rk:Nat→Int} {w:List Int} {n m:Nat} (h:n≤m):D8 m (BU su rk w n):=fun z hz=>by
 have:=Fa n z hz;omega
theorem IX {su rk:Nat→Int} {w:List Int}:∀n:Nat,GR (BU su rk w n)
 | 0=>List.Pairwise.nil
 | n+1=>by
  unfold GR;rw [BU,List.pairwise_append];refine ⟨IX n,?_,fun a ha b hb=> ?_⟩
  ·split<;>simp
  ·have:=Fa n a ha;split at hb
   ·simp at hb;omega
   ·cases hb
theorem Fz {su rk:Nat→Int} {w:List Int} (n i:Nat):Cz (BU su rk w n) i=if i<n∧Hr su rk w i=true then 1 else 0:=by
 rw [KT (IX n)];by_cases h:i<n∧Hr su rk w i=true
 ·rw [if_pos h,if_pos (IE.2 ⟨i,h.1,h.2,rfl⟩)]
 ·rw [if_neg h,if_neg fun hm=> ?_];obtain ⟨k,h1,h2,h3⟩:=IE.1 hm;obtain rfl:i=k:=by omega
  exact h ⟨h1,h2⟩
theorem NE {su rk:Nat→Int} {w:List Int}:∀n:Nat,(BU su rk w n).length≤n
 | 0=>Nat.le_refl _
 | n+1=>by have:=NE (su:=su) (rk:=rk) (w:=w) n;rw [BU,List.length_append];split<;>simp<;>omega
theorem VU {su rk:Nat→Int} {w:List Int} (bag:List Int) (k:Nat) (h:Hr su rk w k=true):Ah bag (BU su rk w (k+1))=DY (Ah bag (BU su rk w k)) k:=by
 unfold Ah;rw [BU,if_pos h,List.foldl_append];rfl
theorem Uu {su rk:Nat→Int} {w:List Int} (bag:List Int) (k:Nat) (h:Hr su rk w k=true):A5 bag (BU su rk w (k+1))=Aq (A5 bag (BU su rk w k)) k:=by
 unfold A5;rw [BU,if_pos h,List.foldl_append];rfl
theorem Uz {su rk:Nat→Int} {w:List Int} (k:Nat) (h:Hr su rk w k=false):BU su rk w (k+1)=BU su rk w k:=by
 rw [BU,if_neg (by simp [h]),List.append_nil]
theorem Ri {su rk:Nat→Int} {w:List Int} {n:Nat}:∀k,k≤n→DH (Dm (BU su rk w n) n) k=KZ (BU su rk w k)
 | 0,_=>rfl
 | k+1,h=>by
  have hg:=Gu (Fa (su:=su) (rk:=rk) (w:=w) n) k;rw [Fz] at hg;rw [DH,Ri k (by omega),hg,BU];unfold KZ;rw [List.map_append];by_cases hf:Hr su rk w k=true
  ·rw [if_pos ⟨by omega,hf⟩,if_pos hf];rfl
  ·rw [if_neg (fun h=>hf h.2),if_neg hf];rfl
theorem d7 {su rk:Nat→Int} {w:List Int} (n:Nat):Hp (Dm (BU su rk w n) n)=KZ (BU su rk w n):=by
 unfold Hp;rw [Do];exact Ri n (Nat.le_refl _)
theorem An.empty {f f' :Bool} {sz:Nat} {c:Cx} {h:HF} {y:Value} (k:AS c h (.sl f sz []) y):AS c h (.sl f' sz []) y:=by
 cases k with
 | slE _ _ A cap h=>exact .slE _ _ A cap h
 | sl _ _ _ b o cap ys h1 h2 _ _ _ _=>exact .slE _ _ _ cap h2
set_option maxHeartbeats 8000000 in
theorem SU (s:AL) (f:Fm) (h:Hd) (su rk:Nat→Int) (CP:∀k:Nat,AM Tryz.prog 126 [AO s,I k] (.tup [I (su k),I (rk k)])) (hv:AP s=0) (hb:Sb h.bag) (hn:(h.bag.length:Int)=AY s) (hs:h.bag.sum≤14) (hsu:∀k:Nat,su k<3) (hrk:∀k:Nat,0≤su k→0≤rk k)
  (h9:∀w∈Au,h.bag.sum≤5+(BU su rk w h.bag.length).length) (hi:∀a∈Au,∀b∈Au,BU su rk a h.bag.length=BU su rk b h.bag.length→a=b):AM Tryz.prog 137 [Ar s f h] (EG false (Iv (AT s) 20 (fun w=>BU su rk w h.bag.length) h.bag)):=by
 refine Ba ?_;obtain ⟨bag,me⟩:=h;dsimp only at hb hn hs h9 hi ⊢;have hK:AY s≤60:=by have:=Bd s;omega
 have CC:=Dp bag (by omega);obtain ⟨L,hL⟩:∃L:Nat→List (List Gp),(fun i=>(Au.take i).flatMap (HK (AT s) 20 (fun w=>BU su rk w bag.length) bag))=L:=⟨_,rfl⟩;have hL0:L 0=[]:=by rw [←hL];rfl
 have hLs:∀i,(hi:i<Au.length)→L (i+1)=L i++HK (AT s) 20 (fun w=>BU su rk w bag.length) bag Au[i]:=fun i hi=>by
  rw [←hL];dsimp only;rw [List.take_succ_eq_append_getElem hi,List.flatMap_append];simp
 refine zb Tryz.ntmps137 ?_;let tb:=cX;let lv:=Wx;(have fa:= @Ar.eq_1;(repeat' first|refine zS Qt ?_|refine zQ ?_|refine zN ?_;intro K hC hK|refine zM ?_;try clear hK hC K|refine zC ?_ ?_<;>intro hb|refine zK ?_;intro Jo JU JC AH AJ AG)<;>(try clear fa))
 refine A8 (BY 3 500 0 1 (by rfl) (by rfl)) (α:=Nat×Nat) (fun x=>[(1, .ref 1 0 0 0),(3, .rsl 0 x.2 0 (L x.1).length),(13, .sl true 3 (Au.map eW)),(14,I 6),(15,I x.1)]) (fun x=>[(0, .arr x.2 1 ((L x.1).map (AX true))),(1, .arr 0 14 [Ar s f ⟨bag,me⟩])]) (fun x=>6-x.1) (fun x=>x.1≤6∧(L x.1).length≤x.1) [(500,0),(0,1)] [(0,0),(1,1)] 0 [1,3,13,14,15] 900 zf zf (0,0) ⟨Nat.zero_le _,by rw [hL0];exact Nat.le_refl _⟩ (by (have fa:=(And.intro @Dg.eq_1 (And.intro (And.intro @Ci.eq_1 @Ci.eq_2) (And.intro hL0 @Ar.eq_1)));exact CZ)) ?_;rintro ⟨i,g⟩ ⟨hi6,hLl⟩ J hcJ hJ;dsimp only at hi6 hLl hJ ⊢;by_cases h:i<6
 ·have hip:i<Au.length:=h;obtain ⟨w,hw⟩:∃w,Au[i]=w:=⟨_,rfl⟩;have hwm:w∈Au:=by rw [←hw];exact List.getElem_mem hip
  have hLi:=hLs i hip;rw [hw] at hLi;have h9w:=h9 w hwm;obtain ⟨a,b,c,hwe,ha,hbb,hc⟩:=Gq w hwm;have hpe:List.map eW Au=[.agg [I 0,I 1,I 2], .agg [I 0,I 2,I 1], .agg [I 1,I 0,I 2], .agg [I 1,I 2,I 0], .agg [I 2,I 0,I 1], .agg [I 2,I 1,I 0]]:=rfl;have hnn:Dv (List.map eW Au) i= .agg [I a,I b,I c]:=by simp [Dv,hip,hw,hwe,eW]
  obtain ⟨A,hA⟩:∃A,L i=A:=⟨_,rfl⟩;rw [hA] at hLi hLl ⊢;have hr:List.replicate bag.length (AV.v (.int .i64 0))=(List.replicate bag.length 0).map I:=by rw [List.map_replicate]
  (have fa:=(And.intro hnn (And.intro @Ar.eq_1 hr));(repeat' first|refine zO CC ?_|refine zQ ?_|refine zN ?_;intro K hC hK|refine zM ?_;try clear hK hC K|refine zC ?_ ?_<;>intro hb|refine zK ?_;intro Jo JU JC AH AJ AG)<;>(try clear fa))
  have hd0:Ah bag (BU su rk w 0)=bag:=rfl;have hc0:Dm (BU su rk w 0) bag.length=List.replicate bag.length 0:=rfl;have hwl:w.length=3:=by rw [hwe];rfl
  refine Ab bag.length (fun k σ=>(∀j,j<k→Hr su rk w j=true→1≤bag.getD j 0)∧σ=⟨900,[(1, .ref 1 0 0 0),(3, .rsl 0 g 0 A.length),(5, .ref 2 0 0 0),(6, .rsl 3 1 0 bag.length),(7, .rsl 4 0 0 bag.length),(13, .sl true 3 (Au.map eW)),(14,I 6),(15,I i),(29,I bag.length),(30,I k)],[(0, .arr g 1 (A.map (AX true))),(1, .arr 0 14 [Ar s f ⟨bag,me⟩]),(2, .arr 0 3 [.agg [I a,I b,I c]]),(3, .arr 1 1 ((Ah bag (BU su rk w k)).map I)),(4, .arr 0 1 ((Dm (BU su rk w k) bag.length).map I))]⟩) [(0,0),(1,1),(948,2),(1028,3),(1108,4)] [(0,0),(1,1),(2,2),(3,3),(4,4)] 0 [1,3,5,6,7,13,14,15,29,30] 900 zf zf ⟨fun j h=>absurd h (Nat.not_lt_zero j),by (have fa:=(And.intro @Ar.eq_1 (And.intro hd0 hc0));exact zV)⟩ ?_;clear hd0 hc0;rintro k σ' hk ⟨hG,rfl⟩ J2 hcJ2 hJ2;have hink:D8 bag.length (BU su rk w k):=V0 hk;have hdl:=Bn (BU su rk w k) bag;have hdg:=BF (BU su rk w k) bag hink;have hcl:=Do (BU su rk w k) bag.length;have hcg:=fun i=>Gu hink i
  by_cases hlt:k<bag.length
  ·have hge:bag.getD k 0=bag[k]:=by simp [hlt]
   have hbk:=hb k;have CPk:=CP k;have hs3:=hsu k;have hr0:=hrk k;have hfe:Hr su rk w k=(decide (0≤su k)&&decide (rk k % 3=[a,b,c].getD (su k).toNat 0)):=by unfold Hr;rw [hwe]
   have hyk:=hdg k;rw [Fz,if_neg (by omega),Int.sub_zero,hge] at hyk;have hzk:=hcg k;rw [Fz,if_neg (by omega)] at hzk;rw [hge] at hbk;have nD:=fun h=>VU (su:=su) (rk:=rk) (w:=w) bag k h
   have nI:=fun h=>Uu (su:=su) (rk:=rk) (w:=w) (List.replicate bag.length 0) k h
   have nS:=fun h=>Uz (su:=su) (rk:=rk) (w:=w) k h
   obtain ⟨z,hz⟩:∃z,bag[k]=z:=⟨_,rfl⟩;obtain ⟨u,hu⟩:∃u,su k=u:=⟨_,rfl⟩;obtain ⟨r,hr⟩:∃r,rk k=r:=⟨_,rfl⟩;rw [hz] at hbk hyk;rw [hu,hr] at CPk hr0 hfe;rw [hu] at hs3;obtain ⟨Y,hY⟩:∃Y,Ah bag (BU su rk w k)=Y:=⟨_,rfl⟩;obtain ⟨Z,hZ⟩:∃Z,Dm (BU su rk w k) bag.length=Z:=⟨_,rfl⟩;rw [hY] at hdl hyk nD;rw [hZ] at hcl hzk;rw [hY,hZ];by_cases hf:Hr su rk w k=true
   ·have nD:=nD hf;have nI:=nI hf;rw [hf] at hfe;simp only [Bool.true_eq,Bool.and_eq_true,decide_eq_true_eq] at hfe;obtain ⟨hu0,hm⟩:=hfe;have htm:r.tmod 3=r % 3:=Int.tmod_eq_emod_of_nonneg (hr0 hu0);have e1:Y[k]'(by omega)=z:=by rw [←hyk];simp [show k<Y.length by omega]
    have e2:(Y.map I).set k (I (z-1))=(DY Y k).map I:=by
     unfold DY;rw [Int.toNat_natCast,List.map_set,hyk]
    have e3l:k<(DY Y k).length:=by rw [Ee];omega
    have e3:(DY Y k)[k]'e3l=z-1:=by
     unfold DY;simp only [Int.toNat_natCast,hyk,List.getElem_set_self]
    have e4:(Z.map I).set k (I 1)=(Aq Z k).map I:=by
     unfold Aq;rw [Int.toNat_natCast,List.map_set,hzk];rfl
    have hnx:Ah bag (BU su rk w (k+1))=DY Y k:=nD;have hnz:Dm (BU su rk w (k+1)) bag.length=Aq Z k:=by rw [←hZ];exact nI
    have hdl1:(DY Y k).length=bag.length:=by rw [Ee];exact hdl
    obtain ⟨Y1,hY1⟩:∃Y1,DY Y k=Y1:=⟨_,rfl⟩;obtain ⟨Z1,hZ1⟩:∃Z1,Aq Z k=Z1:=⟨_,rfl⟩;simp only [hY1] at e2 e3 hnx e3l;rw [hZ1] at e4 hnz;have hu3:u=0∨u=1∨u=2:=by omega
    by_cases hz0:z=0
    ·have hU:HK (AT s) 20 (fun w=>BU su rk w bag.length) bag w=[]:=by
      unfold HK;rcases C5 (BU su rk w bag.length) bag (Fa bag.length) (fun i=>(hb i).1) with ⟨_,h2⟩|⟨h1,_⟩
      ·exfalso;have:=h2 k;rw [Fz,if_pos ⟨hlt,hf⟩,hge,hz] at this;omega
      ·rw [h1]
     rw [hU,List.append_nil] at hLi;rcases hu3 with rfl|rfl|rfl
     ·have hm' :r % 3=a:=hm;rw [hm'] at htm;(have fa:=(And.intro hz (And.intro htm (And.intro @Ar.eq_1 (And.intro e1 (And.intro e2 (And.intro e3 @bne_self_eq_false.{0}))))));(repeat' first|refine zS CPk ?_|refine zQ ?_|refine zN ?_;intro K hC hK|refine zM ?_;try clear hK hC K|refine zC ?_ ?_<;>intro hb|refine zK ?_;intro Jo JU JC AH AJ AG)<;>(try clear fa))
      exact hJ _ (i+1,g) (by dsimp only;omega) ⟨by dsimp only;omega,by dsimp only;rw [hLi];omega⟩ (by (have fa:=(And.intro hLi @Ar.eq_1);exact CZ))
     ·have hm' :r % 3=b:=hm;rw [hm'] at htm;(have fa:=(And.intro hz (And.intro htm (And.intro @Ar.eq_1 (And.intro e1 (And.intro e2 (And.intro e3 @bne_self_eq_false.{0}))))));(repeat' first|refine zS CPk ?_|refine zQ ?_|refine zN ?_;intro K hC hK|refine zM ?_;try clear hK hC K|refine zC ?_ ?_<;>intro hb|refine zK ?_;intro Jo JU JC AH AJ AG)<;>(try clear fa))
      exact hJ _ (i+1,g) (by dsimp only;omega) ⟨by dsimp only;omega,by dsimp only;rw [hLi];omega⟩ (by (have fa:=(And.intro hLi @Ar.eq_1);exact CZ))
     ·have hm' :r % 3=c:=hm;rw [hm'] at htm;(have fa:=(And.intro hz (And.intro htm (And.intro @Ar.eq_1 (And.intro e1 (And.intro e2 (And.intro e3 @bne_self_eq_false.{0}))))));(repeat' first|refine zS CPk ?_|refine zQ ?_|refine zN ?_;intro K hC hK|refine zM ?_;try clear hK hC K|refine zC ?_ ?_<;>intro hb|refine zK ?_;intro Jo JU JC AH AJ AG)<;>(try clear fa))
      exact hJ _ (i+1,g) (by dsimp only;omega) ⟨by dsimp only;omega,by dsimp only;rw [hLi];omega⟩ (by (have fa:=(And.intro hLi @Ar.eq_1);exact CZ))
    ·have hG1:∀j,j<k+1→Hr su rk w j=true→1≤bag.getD j 0:=fun j h1 h2=>by
      by_cases e:j=k
      ·subst e;rw [hge,hz];omega
      ·exact hG j (by omega) h2
     rcases hu3 with rfl|rfl|rfl
     ·have hm' :r % 3=a:=hm;rw [hm'] at htm;(have fa:=(And.intro hz (And.intro htm (And.intro @Ar.eq_1 (And.intro e1 (And.intro e2 (And.intro e3 (And.intro e4 @bne_self_eq_false.{0})))))));(repeat' first|refine zS CPk ?_|refine zQ ?_|refine zN ?_;intro K hC hK|refine zM ?_;try clear hK hC K|refine zC ?_ ?_<;>intro hb|refine zK ?_;intro Jo JU JC AH AJ AG)<;>(try clear fa))
      exact hJ2 _ hlt ⟨hG1,by (have fa:=(And.intro @Ar.eq_1 (And.intro hnx hnz));exact zV)⟩
     ·have hm' :r % 3=b:=hm;rw [hm'] at htm;(have fa:=(And.intro hz (And.intro htm (And.intro @Ar.eq_1 (And.intro e1 (And.intro e2 (And.intro e3 (And.intro e4 @bne_self_eq_false.{0})))))));(repeat' first|refine zS CPk ?_|refine zQ ?_|refine zN ?_;intro K hC hK|refine zM ?_;try clear hK hC K|refine zC ?_ ?_<;>intro hb|refine zK ?_;intro Jo JU JC AH AJ AG)<;>(try clear fa))
      exact hJ2 _ hlt ⟨hG1,by (have fa:=(And.intro @Ar.eq_1 (And.intro hnx hnz));exact zV)⟩
     ·have hm' :r % 3=c:=hm;rw [hm'] at htm;(have fa:=(And.intro hz (And.intro htm (And.intro @Ar.eq_1 (And.intro e1 (And.intro e2 (And.intro e3 (And.intro e4 @bne_self_eq_false.{0})))))));(repeat' first|refine zS CPk ?_|refine zQ ?_|refine zN ?_;intro K hC hK|refine zM ?_;try clear hK hC K|refine zC ?_ ?_<;>intro hb|refine zK ?_;intro Jo JU JC AH AJ AG)<;>(try clear fa))
      exact hJ2 _ hlt ⟨hG1,by (have fa:=(And.intro @Ar.eq_1 (And.intro hnx hnz));exact zV)⟩
   ·have hf:Hr su rk w k=false:=by simpa using hf
    have nS:=nS hf;have hG1:∀j,j<k+1→Hr su rk w j=true→1≤bag.getD j 0:=fun j h1 h2=>by
     by_cases e:j=k
     ·subst e;rw [hf] at h2;cases h2
     ·exact hG j (by omega) h2
    have hnx:Ah bag (BU su rk w (k+1))=Y:=by rw [nS,hY]
    have hnz:Dm (BU su rk w (k+1)) bag.length=Z:=by rw [nS,hZ]
    by_cases hu0:u<0
    ·(have fa:=(And.intro hz @Ar.eq_1);(repeat' first|refine zS CPk ?_|refine zQ ?_|refine zN ?_;intro K hC hK|refine zM ?_;try clear hK hC K|refine zC ?_ ?_<;>intro hb|refine zK ?_;intro Jo JU JC AH AJ AG)<;>(try clear fa))
     exact hJ2 _ hlt ⟨hG1,by (have fa:=(And.intro @Ar.eq_1 (And.intro hnx hnz));exact zV)⟩
    ·have htm:r.tmod 3=r % 3:=Int.tmod_eq_emod_of_nonneg (hr0 (by omega));obtain ⟨m,hm⟩:∃m,r % 3=m:=⟨_,rfl⟩;rw [hm] at htm hfe;rw [hf] at hfe;have hu3:u=0∨u=1∨u=2:=by omega
     rcases hu3 with rfl|rfl|rfl
     ·have hne:(m != a)=true:=by
       rw [bne_iff_ne];intro e;subst e;simp at hfe
      (have fa:=(And.intro hz (And.intro htm (And.intro @Ar.eq_1 hne)));(repeat' first|refine zS CPk ?_|refine zQ ?_|refine zN ?_;intro K hC hK|refine zM ?_;try clear hK hC K|refine zC ?_ ?_<;>intro hb|refine zK ?_;intro Jo JU JC AH AJ AG)<;>(try clear fa))
      exact hJ2 _ hlt ⟨hG1,by (have fa:=(And.intro @Ar.eq_1 (And.intro hnx hnz));exact zV)⟩
     ·have hne:(m != b)=true:=by
       rw [bne_iff_ne];intro e;subst e;simp at hfe
      (have fa:=(And.intro hz (And.intro htm (And.intro @Ar.eq_1 hne)));(repeat' first|refine zS CPk ?_|refine zQ ?_|refine zN ?_;intro K hC hK|refine zM ?_;try clear hK hC K|refine zC ?_ ?_<;>intro hb|refine zK ?_;intro Jo JU JC AH AJ AG)<;>(try clear fa))
      exact hJ2 _ hlt ⟨hG1,by (have fa:=(And.intro @Ar.eq_1 (And.intro hnx hnz));exact zV)⟩
     ·have hne:(m != c)=true:=by
       rw [bne_iff_ne];intro e;subst e;simp at hfe
      (have fa:=(And.intro hz (And.intro htm (And.intro @Ar.eq_1 hne)));(repeat' first|refine zS CPk ?_|refine zQ ?_|refine zN ?_;intro K hC hK|refine zM ?_;try clear hK hC K|refine zC ?_ ?_<;>intro hb|refine zK ?_;intro Jo JU JC AH AJ AG)<;>(try clear fa))
      exact hJ2 _ hlt ⟨hG1,by (have fa:=(And.intro @Ar.eq_1 (And.intro hnx hnz));exact zV)⟩
  ·obtain rfl:k=bag.length:=by omega
   have hU:HK (AT s) 20 (fun w=>BU su rk w bag.length) bag w=(Eg (AT s) 20 (Ah bag (BU su rk w bag.length))).map (· ++KZ (BU su rk w bag.length)):=by
    unfold HK;rcases C5 (BU su rk w bag.length) bag (Fa bag.length) (fun i=>(hb i).1) with ⟨h1,_⟩|⟨_,i,h2⟩
    ·rw [h1]
    ·exfalso;rw [Fz] at h2;have:=(hb i).1;split at h2
     ·rename_i hc;have:=hG i hc.1 hc.2;omega
     ·omega
   have hsum:=Ck (BU su rk w bag.length) bag hink;have hbY:Sb (Ah bag (BU su rk w bag.length)):=fun i=>by
    rw [hdg,Fz];have:=hb i;split
    ·rename_i hc;have:=hG i hc.1 hc.2;omega
    ·omega
   have hsg:=d7 (su:=su) (rk:=rk) (w:=w) bag.length;have hZb:Sb (Dm (BU su rk w bag.length) bag.length):=fun i=>by
    rw [hcg,Fz];split<;>omega
   have CS:=G8 (Dm (BU su rk w bag.length) bag.length) hZb (by omega);rw [hsg] at CS;obtain ⟨Y,hY⟩:∃Y,Ah bag (BU su rk w bag.length)=Y:=⟨_,rfl⟩;obtain ⟨Z,hZ⟩:∃Z,Dm (BU su rk w bag.length) bag.length=Z:=⟨_,rfl⟩;rw [hY] at hU hdl hsum hbY;rw [hZ] at hcl CS;rw [hY,hZ];have hnl:=NE (su:=su) (rk:=rk) (w:=w) bag.length;obtain ⟨nk,hnk⟩:∃nk,BU su rk w bag.length=nk:=⟨_,rfl⟩;rw [hnk] at hU hsum CS h9w hnl;have hTY:Y.take bag.length=Y:=List.take_of_length_le (by omega);have hTY2:bag.length≤Y.length:=by omega
   have hTZ:Z.take bag.length=Z:=List.take_of_length_le (by omega);have hTZ2:bag.length≤Z.length:=by omega
   have hr:=MB s (show (Y.length:Int)=AY s by omega);have hbg:Bg Y.length Y:=⟨rfl,fun i=>(hbY i).1⟩;have hsp:=Fb hr hbg (f:=20) (by omega);cases hS:Eg (AT s) 20 Y with
   | nil =>
    have CSp:=Hw s hv Y hbY (by omega) (by omega);rw [hS] at hU;have CSp:AM Tryz.prog 124 [AO s,AN false Y] (.sl true 1 []):=D2 (x:=EG false []) (fun _ _ _ k=>An.empty k) (by rw [hS] at CSp;exact CSp);rw [List.map_nil] at hU;rw [hU,List.append_nil] at hLi;(have fa:=(And.intro hTY (And.intro hTY2 @Ar.eq_1));(repeat' first|refine zS CSp ?_|refine zQ ?_|refine zN ?_;intro K hC hK|refine zM ?_;try clear hK hC K|refine zC ?_ ?_<;>intro hb|refine zK ?_;intro Jo JU JC AH AJ AG)<;>(try clear fa))
    refine Ab 0 (fun _ σ=>σ=⟨900,[(1, .ref 1 0 0 0),(3, .rsl 0 g 0 A.length),(7, .any),(13, .sl true 3 (Au.map eW)),(14,I 6),(15,I i),(69,I 0),(70,I 0)],[(0, .arr g 1 (A.map (AX true))),(1, .arr 0 14 [Ar s f ⟨bag,me⟩])]⟩) [(0,0),(1,1)] [(0,0),(1,1)] 0 [1,3,7,13,14,15,69,70] 900 zf zf (by (have fa:= @Ar.eq_1;exact zV)) ?_;rintro j σ' hj rfl J4 hcJ4 hJ4;(repeat' first|refine zQ ?_|refine zN ?_;intro K hC hK|refine zM ?_;try clear hK hC K|refine zC ?_ ?_<;>intro hb|refine zK ?_;intro Jo JU JC AH AJ AG)
    exact hJ _ (i+1,g) (by dsimp only;omega) ⟨by dsimp only;omega,by dsimp only;rw [hLi];omega⟩ (by (have fa:=(And.intro hLi @Ar.eq_1);exact CZ))
   | cons x l =>
    have hl:l=[]:=by
     cases l with
     | nil=>rfl
     | cons y l =>
      exfalso;rw [hS] at hsp;have h1:=(hsp.2 x).1 (by simp);have h2:=(hsp.2 y).1 (by simp);have e:=YR hr hbg (by omega) h1 h2;have h3:=(List.pairwise_cons.1 hsp.1).1 y (by simp);rw [e,Ez] at h3;omega
    subst hl;have CSp:=Qb s hv Y hbY (by omega) (by omega) x hS;rw [hS] at hU;(have fa:= @Ar.eq_1;(repeat' first|refine zQ ?_|refine zN ?_;intro K hC hK|refine zM ?_;try clear hK hC K|refine zC ?_ ?_<;>intro hb|refine zK ?_;intro Jo JU JC AH AJ AG)<;>(try clear fa))
    (have fa:=(And.intro hTY (And.intro hTY2 @Ar.eq_1));refine jY (tg []) (CSp) ?_;clear AH AJ AG Jo JU JC;(try clear fa));intro xr hxr;(repeat' first|refine zQ ?_|refine zN ?_;intro K hC hK|refine zM ?_;try clear hK hC K|refine zC ?_ ?_<;>intro hb|refine zK ?_;intro Jo JU JC AH AJ AG)
    rw [List.map_cons,List.map_nil] at hU;rw [hU] at hLi;have hx1:=(hsp.2 x).1 (by rw [hS];simp);have hxl:=hx1.len hr hbg;have hTX:x.take x.length=x:=List.take_length;have hsl:(KZ nk).length=nk.length:=by simp [KZ]
    have hTS:∀S:List Gp,List.take (x.length+S.length) (x++S)=x++S:=fun S=>by rw [←List.length_append,List.take_length]
    obtain ⟨S,hSn⟩:∃S,KZ nk=S:=⟨_,rfl⟩;rw [hSn] at hLi CS hsl;refine Ab 1 (fun j σ=>(j=0∧σ=⟨900,[(1, .ref 1 0 0 0),(3, .rsl 0 g 0 A.length),(7, .rsl 2 0 0 bag.length),(13, .sl true 3 (Au.map eW)),(14,I 6),(15,I i),(68, .rsl 3 xr 0 1),(69,I 1),(70,I 0)],[(0, .arr g 1 (A.map (AX true))),(1, .arr 0 14 [Ar s f ⟨bag,me⟩]),(2, .arr 0 1 (Z.map I)),(3, .arr xr 1 [.rsl 4 1 0 x.length]),(4, .arr 1 3 (x.map AZ))]⟩)∨(j=1∧σ=⟨900,[(1, .ref 1 0 0 0),(3, .rsl 0 (g+1) 0 (A.length+1)),(7,AN true Z),(13, .sl true 3 (Au.map eW)),(14,I 6),(15,I i),(68, .sl true 1 [.any]),(69,I 1),(70,I 1)],[(0, .arr (g+1) 1 ((A++[x++S]).map (AX true))),(1, .arr 0 14 [Ar s f ⟨bag,me⟩])]⟩)) [(0,0),(1,1),(4,2),(964,3),(965,4)] [(0,0),(1,1)] 1 [1,3,7,13,14,15,68,69,70] 900 zf zf (.inl ⟨rfl,by (have fa:= @Ar.eq_1;exact zV)⟩) ?_;rintro j σ' hj (⟨rfl,rfl⟩|⟨rfl,rfl⟩) J4 hcJ4 hJ4
    ·(have fa:=(And.intro hTZ (And.intro hTZ2 @Ar.eq_1));(repeat' first|refine zS CS ?_|refine zQ ?_|refine zN ?_;intro K hC hK|refine zM ?_;try clear hK hC K|refine zC ?_ ?_<;>intro hb|refine zK ?_;intro Jo JU JC AH AJ AG)<;>(try clear fa))
     refine hJ4 _ (by omega) (.inr ⟨rfl,?_⟩);(have fa:=(And.intro @Ar.eq_1 (And.intro hTZ (And.intro hTZ2 (And.intro hpe hTS))));first|exact AK|(refine zE ?_;try clear fa))
    ·(repeat' first|refine zQ ?_|refine zN ?_;intro K hC hK|refine zM ?_;try clear hK hC K|refine zC ?_ ?_<;>intro hb|refine zK ?_;intro Jo JU JC AH AJ AG)
     exact hJ _ (i+1,g+1) (by dsimp only;omega) ⟨by dsimp only;omega,by dsimp only;rw [hLi,List.length_append];simp;omega⟩ (by (have fa:=(And.intro hLi @Ar.eq_1);exact CZ))
 ·obtain rfl:i=6:=by omega
  have hL6:L 6=Ln (AT s) 20 (fun w=>BU su rk w bag.length) bag:=by rw [←hL];rfl
  have hr:=MB s hn;have hbg:Bg bag.length bag:=⟨rfl,fun i=>(hb i).1⟩;have key:∀S:List (List Gp),S.Perm (L 6)→(S.Pairwise fun a b=>BL a b≤0)→S=Iv (AT s) 20 (fun w=>BU su rk w bag.length) bag:=fun S h1 h2 =>
   X6 hr hbg (by omega) (fun w _=>⟨IX _,Fa _⟩) hi (by rw [←hL6];exact h1) h2
  have hL6w:∀x∈L 6,x.length≤1000000:=fun x hx=>by
   rw [hL6] at hx;unfold Ln at hx;obtain ⟨w,hw,hx⟩:=List.mem_flatMap.1 hx;unfold HK at hx;rcases C5 (BU su rk w bag.length) bag (Fa bag.length) (fun i=>(hb i).1) with ⟨h1,h2⟩|⟨h1,_⟩
   ·rw [h1] at hx;obtain ⟨l,hl,rfl⟩:=List.mem_map.1 hx;have hbd:=hbg.dec (Fa (su:=su) (rk:=rk) (w:=w) bag.length) h2;have hsum:=Ck (BU su rk w bag.length) bag (Fa bag.length);have hsp:=((Fb hr hbd (f:=20) (by omega)).2 l).1 hl;have hlen:=hsp.len hr hbd;have:=NE (su:=su) (rk:=rk) (w:=w) bag.length;rw [List.length_append];simp [KZ];omega
   ·rw [h1] at hx;cases hx
  clear hL6;obtain ⟨N,hN⟩:∃N,L 6=N:=⟨_,rfl⟩;rw [hN] at key hL6w hLl ⊢;cases N with
  | nil =>
   have CS:=OI g;(repeat' first|refine zJ (tg [0]) CS ?_|refine zQ ?_|refine zN ?_;intro K hC hK|refine zM ?_;try clear hK hC K|refine zC ?_ ?_<;>intro hb|refine zK ?_;intro Jo JU JC AH AJ AG)
   have e:=key [] (List.Perm.refl _) List.Pairwise.nil;rw [←e];refine Aa [] ?_ ?_<;>(first|exact AK|refine zE ?_);exact fun _ _ _ k=>An.empty k
  | cons l0 N' =>
   have CE:Hn Tryz.prog 161 [.rsl 0 g 0 (l0::N').length, .clo 162 []] [(0, .arr g 1 ((l0::N').map (AX false)))] (fun _:List (List Gp)=> .v (.tuple #[])) (fun l' =>[(0, .arr g 1 (l'.map (AX false)))]) (fun l' =>l'.Perm (l0::N')∧l'.Pairwise fun a b=>BL a b≤0) :=
    EE (Ox false g (l0::N') (by simp) (by omega) hL6w) (by rintro x hl ⟨rfl,l',h1,h2,rfl⟩;exact ⟨l',⟨h1,h2⟩,rfl,rfl⟩)
   obtain ⟨M,hM⟩:∃M,l0::N' =M:=⟨_,rfl⟩;rw [hM] at CE key ⊢;(repeat' first|refine zQ ?_|refine zN ?_;intro K hC hK|refine zM ?_;try clear hK hC K|refine zC ?_ ?_<;>intro hb|refine zK ?_;intro Jo JU JC AH AJ AG)
   (refine zX (tg [0]) (CE) ?_;clear AH AJ AG Jo JU JC);intro xr hxr;have e:=key xr hxr.1 hxr.2;have hl:=hxr.1.length_eq;have hT:xr.take M.length=xr:=by rw [←hl,List.take_length]
   have hT2:M.length≤xr.length:=by omega
   (repeat' first|refine zQ ?_|refine zN ?_;intro K hC hK|refine zM ?_;try clear hK hC K|refine zC ?_ ?_<;>intro hb|refine zK ?_;intro Jo JU JC AH AJ AG)
   rw [←e];refine Aa [] ?_ ?_<;>(have fa:=(And.intro hT hT2);first|exact AK|(refine zE ?_;try clear fa));first
   |exact An.sl _ _ _
   |(refine An.trans (An.low _) (An.eq ?_);simp [AV.low,lowL,lowL_eGp,EG,AX])
theorem Q6 (l:List (List Gp)) (g:List Gp):(E0 l g).length≤l.length+1:=by
 unfold E0;split
 ·omega
 ·have:=SV l g l.length;simp;omega
theorem DR {g:Gp}:∀(ls out:List (List Gp)),(DB g out ls).length≤out.length+ls.length
 | [],out=>by simp [DB]
 | y::ls,out=>by
  have h1:=DR (g:=g) ls (E0 out (BN y g));have h2:=Q6 out (BN y g);simp only [DB,List.foldl_cons,List.length_cons] at *;omega
theorem La (rn:Int→Bool) (f:Nat) (bag:List Int) (h:¬AB bag=bag.length):Cc rn (f+1) bag=(ES rn (AB bag)).foldl (Co rn f bag) []:=by
 rw [Cc,if_neg h];rfl
end Go.Proofs.YthblfhgofopcaaaGreat
