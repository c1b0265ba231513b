/-
  Parts of the proof: FroB3, FroC.
-/
import Derived.Test.YthblfhgofopcaaaGreatSH13
import Derived.Test.YthblfhgofopcaaaGreatSH14
import Derived.Test.YthblfhgofopcaaaGreatSH23
import Derived.Test.YthblfhgofopcaaaGreatTU04
import Derived.Test.YthblfhgofopcaaaGreatTU03
import Derived.Test.YthblfhgofopcaaaGreatTU05
set_option linter.all false
namespace Go.Proofs.YthblfhgofopcaaaGreat
open Go.RowKit
set_option maxRecDepth 100000
set_option maxHeartbeats 2000000
set_option maxHeartbeats 8000000 in
theorem bB (s:AL) (hv:AP s=0) (f:Nat) (ihA:∀(k:Nat) (x:Sx),FP s f k x→DT s f x=[]→I6 s k x) (ihB:∀(k:Nat) (x:Sx) (w:List Gp),FP s f k x→DT s f x=[w]→F7 s k x w) (k:Nat) (x:Sx) (w:List Gp) (hp:FP s (f+1) k x) (hlt1:AB x.left<x.left.length) (hn1:Li s f x=[]) (hn2:Lq s f x=[]) (hn3:MY s f x=[w]):F7 s k x w:=by
 obtain ⟨left,pd,so,junk,gs,go⟩:=x;have hK:AY s≤60:=by have:=Bd s;omega
 have hln:=hp.ln;have hso:=hp.so;have hle:=hp.le;have hfl:=BG left;dsimp only at hln hso hle;dsimp only at hlt1;unfold F7;dsimp only;refine FL 10 Tryz.ntmps158 ?_;let tb:=Fd;let lv:=Ed;(repeat' first|refine zQ ?_|refine zN ?_;intro K hC hK|refine zM ?_;try clear hK hC K|refine zC ?_ ?_<;>intro hb|refine zK ?_;intro Jo JU JC AH AJ AG)
 refine DU (fun m σ=>∃j:Nat,m=left.length-j∧k≤j∧j≤AB left∧σ=⟨900,[(1, .ref 1 0 0 0),(2, .ref 2 0 0 0),(3, .ref 3 0 0 0),(4, .ref 4 0 0 0),(5, .ref 5 0 0 0),(6, .ref 6 0 0 0),(7, .ref 0 0 0 0),(8, .ref 10 0 0 0)],[(0, .arr 0 9 [AO s]),(1, .arr 0 1 [.rsl 7 1 0 left.length]),(2, .arr 0 1 [B pd]),(3, .arr 0 1 [.rsl 9 go 0 0]),(4, .arr 0 1 [.rsl 8 gs 0 so.length]),(5, .arr 0 1 [AA]),(6, .arr 0 1 [AF]),(7, .arr 1 1 (left.map I)),(8, .arr gs 3 ((so++junk).map AZ)),(9, .arr go 1 []),(10, .arr 0 1 [I j])]⟩) [(0,0),(1,1),(2,2),(3,3),(4,4),(5,5),(6,6),(7,7),(8,8),(9,9),(64,10)] [(0,0),(1,1),(2,2),(3,3),(4,4),(5,5),(6,6),(7,7),(8,8),(9,9),(10,10)] 0 [1,2,3,4,5,6,7,8] 900 zg zg ⟨_,k,rfl,Nat.le_refl _,hle,by (have fa:=(And.intro @AA.eq_1 @AF.eq_1);exact zV)⟩ ?_;rintro m σ' ⟨j,rfl,hj1,hj2,rfl⟩ J hcJ hJ;have hlt0:=Bf left;have hne0:=Bu left;by_cases hlt:j<left.length
 ·have hge:left.getD j 0=left[j]:=by simp [hlt]
  by_cases hz:left[j]=0
  ·(have fa:=hz;(repeat' first|refine zQ ?_|refine zN ?_;intro K hC hK|refine zM ?_;try clear hK hC K|refine zC ?_ ?_<;>intro hb|refine zK ?_;intro Jo JU JC AH AJ AG)<;>(try clear fa))
   refine hJ _ _ (show left.length-(j+1)<left.length-j by omega) ⟨j+1,rfl,by omega,?_,by (have fa:=(And.intro @AA.eq_1 @AF.eq_1);exact zV)⟩;rcases Nat.lt_or_ge j (AB left) with h|h
   ·exact h
   ·exfalso;have:j=AB left:=by omega
    subst this;exact hne0 hlt (by rw [hge];exact hz)
  ·have hj:j=AB left:=by
    rcases Nat.lt_or_ge j (AB left) with h|h
    ·exact absurd (hlt0 j h) (by rw [hge];exact hz)
    ·omega
   obtain ⟨q,hq⟩:∃q,AB left=q:=⟨_,rfl⟩;rw [hq] at hj;subst hj;(repeat' first|refine Vf ?_|refine zN ?_;intro K hC hK|refine zM ?_;try clear hK hC K|refine zK ?_;intro Jo JU JC AH AJ AG)
   refine E2 (by first|rfl|skip) (by first|rfl|(simp;omega)) ?_;(repeat' first|refine Vf ?_|refine zN ?_;intro K hC hK|refine zM ?_;try clear hK hC K|refine zK ?_;intro Jo JU JC AH AJ AG)
   refine E2 rfl (by simp;omega) ?_;refine FW ?_;repeat first|(with_reducible refine DO ?_)|(with_reducible refine Cw ?_)
   refine hK _ ?_;refine Gg fun K0 hC0 hK0=> ?_
   have W4:=fun hc=>TA hp hlt1 hc
   have W2:=fun hc=>Sk hp hlt1 hc
   have W1:=fun hr h1 h2=>SO hp hlt1 hr h1 h2
   dsimp only at W4 W2 W1;rw [hq] at W4 W2 W1;rw [Ij s f left pd so junk gs go hq] at hn3;have nx:∀(wh:Int) (wy:N5 s ⟨left,pd,so,junk,gs,go⟩ wh) (pd' :Bool) (gs' go' :Nat),FP s f j ⟨Ah left (AI wh j),pd',so++[gp wh j],[],gs',go'⟩:=fun wh wy pd' gs' go' =>by
    have:=wy.next hp pd' gs' go';dsimp only at this;rw [hq] at this;exact this
   have bd:∀i,-1000≤left.getD i 0∧left.getD i 0≤1000:=fun i=>by have:=hp.sb i;dsimp only at this;omega
   have putA' :∀(wh:Int) (wy:N5 s ⟨left,pd,so,junk,gs,go⟩ wh) (pd' :Bool) (jk:List Gp) (gs' go' :Nat),DT s f ⟨Ah left (AI wh j),pd',so++[gp wh j],[],0,0⟩=[]→Me s j (gp wh j) ⟨left,pd',so,jk,gs',go'⟩:=fun wh wy pd' jk gs' go' hnn=>by
    have hg:=wy.gr;have hi:=wy.inb;dsimp only at hg hi;rw [hq] at hg hi;exact WV s j (gp wh j) ⟨left,pd',so,jk,gs',go'⟩ hv hg hi bd (by dsimp only;omega) (by dsimp only;omega) fun g2=>eR s j _ (ihA j _ (nx wh wy pd' g2 go') hnn)
   have putB' :∀(wh:Int) (wy:N5 s ⟨left,pd,so,junk,gs,go⟩ wh) (pd' :Bool) (jk:List Gp) (gs' go' :Nat),DT s f ⟨Ah left (AI wh j),pd',so++[gp wh j],[],0,0⟩=[w]→RU s j (gp wh j) ⟨left,pd',so,jk,gs',go'⟩ w:=fun wh wy pd' jk gs' go' hnn=>by
    have hg:=wy.gr;have hi:=wy.inb;dsimp only at hg hi;rw [hq] at hg hi;exact WF s j (gp wh j) ⟨left,pd',so,jk,gs',go'⟩ w hv hg hi bd (by dsimp only;omega) (by dsimp only;omega) fun g2=>iH s j _ w (ihB j _ w (nx wh wy pd' g2 go') hnn)
   clear nx;have key0:∀last:Int,BZ so.getLast? j=last→K0 ⟨900,[(1, .ref 1 0 0 0),(2, .ref 2 0 0 0),(6, .ref 6 0 0 0),(7, .ref 0 0 0 0),(8, .ref 10 0 0 0),(9, .clo 160 [.ref 5 0 0 0, .ref 10 0 0 0]),(10,I last)],[(0, .arr 0 9 [AO s]),(1, .arr 0 1 [.rsl 7 1 0 left.length]),(2, .arr 0 1 [B pd]),(3, .arr 0 1 [.rsl 9 go 0 0]),(4, .arr 0 1 [.rsl 8 gs 0 so.length]),(5, .arr 0 1 [AA]),(6, .arr 0 1 [AF]),(7, .arr 1 1 (left.map I)),(8, .arr gs 3 ((so++junk).map AZ)),(9, .arr go 1 []),(10, .arr 0 1 [I j])]⟩:=by
    intro last hlast;rw [IS s f left pd so junk gs go hq hlast] at hn1;rw [Ib s f left pd so junk gs go hq hlast] at hn2;refine hK0 _ ?_;refine D1 fun K1 hC1 hK1=> ?_
    have key1:∀(jk:List Gp) (g2 o2:Nat),K1 ⟨900,[(1, .ref 1 0 0 0),(6, .ref 6 0 0 0),(7, .ref 0 0 0 0),(8, .ref 10 0 0 0),(9, .clo 160 [.ref 5 0 0 0, .ref 10 0 0 0]),(10,I last)],[(0, .arr 0 9 [AO s]),(1, .arr 0 1 [.rsl 7 1 0 left.length]),(2, .arr 0 1 [B pd]),(3, .arr 0 1 [.rsl 9 o2 0 0]),(4, .arr 0 1 [.rsl 8 g2 0 so.length]),(5, .arr 0 1 [AA]),(6, .arr 0 1 [AF]),(7, .arr 1 1 (left.map I)),(8, .arr g2 3 ((so++jk).map AZ)),(9, .arr o2 1 []),(10, .arr 0 1 [I j])]⟩:=by
     intro jk g2 o2;refine hK1 _ ?_;refine D1 fun K2 hC2 hK2=> ?_
     have key2:∀(jk:List Gp) (g2 o2:Nat),K2 ⟨900,[(6, .ref 6 0 0 0),(7, .ref 0 0 0 0),(8, .ref 10 0 0 0),(9, .clo 160 [.ref 5 0 0 0, .ref 10 0 0 0]),(1, .ref 1 0 0 0)],[(0, .arr 0 9 [AO s]),(1, .arr 0 1 [.rsl 7 1 0 left.length]),(2, .arr 0 1 [B pd]),(3, .arr 0 1 [.rsl 9 o2 0 0]),(4, .arr 0 1 [.rsl 8 g2 0 so.length]),(5, .arr 0 1 [AA]),(6, .arr 0 1 [AF]),(7, .arr 1 1 (left.map I)),(8, .arr g2 3 ((so++jk).map AZ)),(9, .arr o2 1 []),(10, .arr 0 1 [I j])]⟩:=by
      intro jk g2 o2;refine hK2 _ ?_;have CR:=Er s (j:Int);by_cases hc:AT s (j:Int)=true∧0<left.getD (j+1) 0∧0<left.getD (j+2) 0
      ·obtain ⟨r1,r2,r3⟩:=hc;rw [if_pos ⟨r1,r2,r3⟩] at hn3;have hkr:=Ct r1;have hj1' :j+1<left.length:=by omega
       have hj2' :j+2<left.length:=by omega
       have q1:left.getD (j+1) 0=left[j+1]:=by simp [hj1']
       have q2:left.getD (j+2) 0=left[j+2]:=by simp [hj2']
       have P1:=putB' 1 (W1 r1 r2 r3) pd jk g2 o2 hn3;rw [r1] at CR;(have fa:= @AF.eq_1;(repeat' first|refine zS CR ?_|refine zQ ?_|refine zN ?_;intro K hC hK|refine zM ?_;try clear hK hC K|refine zC ?_ ?_<;>intro hb|refine zK ?_;intro Jo JU JC AH AJ AG)<;>(try clear fa))
       unfold RU at P1;dsimp only at P1;with_reducible apply Ap.obj [0,1,2,3,4,5,6,7,8,9,10] P1
       ·first|rfl|((have fa:=(And.intro @AA.eq_1 (And.intro @AF.eq_1 @Ae.eq_1));first|exact AK|(refine zE ?_;try clear fa));done)|((have fa:=(And.intro @AA.eq_1 (And.intro @AF.eq_1 @Ae.eq_1));first|exact AK|(refine zE ?_;try clear fa));rfl)
       ·first|rfl|((have fa:=(And.intro @AA.eq_1 (And.intro @AF.eq_1 @Ae.eq_1));first|exact AK|(refine zE ?_;try clear fa));done)|((have fa:=(And.intro @AA.eq_1 (And.intro @AF.eq_1 @Ae.eq_1));first|exact AK|(refine zE ?_;try clear fa));rfl)
       ·decide
       ·intro r hr;simp at hr;rcases hr with rfl|rfl|rfl|rfl|rfl|rfl|rfl|rfl|rfl|rfl|rfl<;>exact ⟨_,_,_,rfl⟩
       ·refine ⟨by (have fa:=(And.intro @AA.eq_1 (And.intro @AF.eq_1 @Ae.eq_1));first|exact AK|(refine zE ?_;try clear fa)),?_⟩;intro r hr g sz es he;simp at hr;rcases hr with rfl|rfl|rfl|rfl|rfl|rfl|rfl|rfl|rfl|rfl|rfl;all_goals
         injection he with h1 h2 h3
         subst h1 h2 h3;first|rfl|((have fa:=(And.intro @AA.eq_1 (And.intro @AF.eq_1 @Ae.eq_1));first|exact AK|(refine zE ?_;try clear fa));done)|((have fa:=(And.intro @AA.eq_1 (And.intro @AF.eq_1 @Ae.eq_1));first|exact AK|(refine zE ?_;try clear fa));rfl)
       rintro v hl ⟨rfl,jk2,g3,o3,rfl⟩;refine ⟨⟨by simp,by simp⟩,?_,?_⟩
       ·intro p hp;simp at hp;rcases hp with rfl|rfl|rfl|rfl|rfl|rfl|rfl|rfl|rfl|rfl|rfl|rfl<;>intro h<;>simp at h<;>rfl
       (have fa:=(And.intro @AA.eq_1 (And.intro @AF.eq_1 @Ae.eq_1));first|exact AK|(refine zE ?_;try clear fa))
       refine AG _ _ _ ?_;clear AH AJ AG Jo JU JC;(repeat' first|refine zQ ?_|refine zN ?_;intro K hC hK|refine zM ?_;try clear hK hC K|refine zC ?_ ?_<;>intro hb|refine zK ?_;intro Jo JU JC AH AJ AG)
       refine Kh [(0,0),(1,1),(2,2),(3,3),(4,4),(5,5),(6,6),(7,7),(8,8),(9,9),(1279,10)] ?_ ?_<;>(first|exact AK|refine zE ?_);exact ⟨jk2,g3,o3,by first|rfl|((have fa:=(And.intro @AA.eq_1 (And.intro @AF.eq_1 @Ae.eq_1));first|exact AK|(refine zE ?_;try clear fa));done)|((have fa:=(And.intro @AA.eq_1 (And.intro @AF.eq_1 @Ae.eq_1));first|exact AK|(refine zE ?_;try clear fa));rfl)⟩
      ·rw [if_neg hc] at hn3;exact absurd hn3 (by simp)
     clear hK2;by_cases hc:3≤left.getD j 0∧last≠1
     ·obtain ⟨r1,r2⟩:=hc;rw [if_pos ⟨r1,r2⟩] at hn2;have P:=putA' 2 (W2 r1) pd jk g2 o2 hn2;rw [hge] at r1;(have fa:= @AF.eq_1;(repeat' first|refine zQ ?_|refine zN ?_;intro K hC hK|refine zM ?_;try clear hK hC K|refine zC ?_ ?_<;>intro hb|refine zK ?_;intro Jo JU JC AH AJ AG)<;>(try clear fa))
      unfold Me at P;dsimp only at P;with_reducible apply Ap.obj [0,1,2,3,4,5,6,7,8,9,10] P
      ·first|rfl|((have fa:=(And.intro @AA.eq_1 (And.intro @AF.eq_1 @Ae.eq_1));first|exact AK|(refine zE ?_;try clear fa));done)|((have fa:=(And.intro @AA.eq_1 (And.intro @AF.eq_1 @Ae.eq_1));first|exact AK|(refine zE ?_;try clear fa));rfl)
      ·first|rfl|((have fa:=(And.intro @AA.eq_1 (And.intro @AF.eq_1 @Ae.eq_1));first|exact AK|(refine zE ?_;try clear fa));done)|((have fa:=(And.intro @AA.eq_1 (And.intro @AF.eq_1 @Ae.eq_1));first|exact AK|(refine zE ?_;try clear fa));rfl)
      ·decide
      ·intro r hr;simp at hr;rcases hr with rfl|rfl|rfl|rfl|rfl|rfl|rfl|rfl|rfl|rfl|rfl<;>exact ⟨_,_,_,rfl⟩
      ·refine ⟨by (have fa:=(And.intro @AA.eq_1 (And.intro @AF.eq_1 @Ae.eq_1));first|exact AK|(refine zE ?_;try clear fa)),?_⟩;intro r hr g sz es he;simp at hr;rcases hr with rfl|rfl|rfl|rfl|rfl|rfl|rfl|rfl|rfl|rfl|rfl;all_goals
        injection he with h1 h2 h3
        subst h1 h2 h3;first|rfl|((have fa:=(And.intro @AA.eq_1 (And.intro @AF.eq_1 @Ae.eq_1));first|exact AK|(refine zE ?_;try clear fa));done)|((have fa:=(And.intro @AA.eq_1 (And.intro @AF.eq_1 @Ae.eq_1));first|exact AK|(refine zE ?_;try clear fa));rfl)
      rintro v hl ⟨rfl,jk2,g3,o3,rfl⟩;refine ⟨⟨by simp,by simp⟩,?_,?_⟩
      ·intro p hp;simp at hp;rcases hp with rfl|rfl|rfl|rfl|rfl|rfl|rfl|rfl|rfl|rfl|rfl<;>intro h<;>simp at h
      (have fa:=(And.intro @AA.eq_1 (And.intro @AF.eq_1 @Ae.eq_1));first|exact AK|(refine zE ?_;try clear fa))
      refine AG _ _ _ ?_;clear AH AJ AG Jo JU JC;(repeat' first|refine zQ ?_|refine zN ?_;intro K hC hK|refine zM ?_;try clear hK hC K|refine zC ?_ ?_<;>intro hb|refine zK ?_;intro Jo JU JC AH AJ AG)
      exact hC2.go [(0,0),(1,1),(2,2),(3,3),(4,4),(5,5),(6,6),(7,7),(8,8),(9,9),(10,10)] 0 [6,7,8,9,1] 900 _ _ (by exact ⟨by decide,by decide,by decide⟩) (key2 jk2 g3 o3) (by (have fa:=(And.intro @AA.eq_1 (And.intro @AF.eq_1 @Ae.eq_1));exact C8))
     ·rw [if_neg hc] at hn2;rw [hge] at hc;(have fa:= @AF.eq_1;(repeat' first|refine zQ ?_|refine zN ?_;intro K hC hK|refine zM ?_;try clear hK hC K|refine zC ?_ ?_<;>intro hb|refine zK ?_;intro Jo JU JC AH AJ AG)<;>(try clear fa))
      all_goals first
      |(exfalso;exact hc ⟨by assumption,by assumption⟩)
      |(exact hC2.go [(0,0),(1,1),(2,2),(3,3),(4,4),(5,5),(6,6),(7,7),(8,8),(9,9),(10,10)] 0 [6,7,8,9,1] 900 _ _ (by exact ⟨by decide,by decide,by decide⟩) (key2 jk g2 o2) (by (have fa:=(And.intro @AA.eq_1 (And.intro @AF.eq_1 @Ae.eq_1));exact C8)))
    clear hK1;by_cases hc:2≤left.getD j 0∧pd=false∧last=0
    ·obtain ⟨r1,rfl,rfl⟩:=hc;rw [if_pos ⟨r1,rfl,rfl⟩] at hn1;have P:=putA' 4 (W4 r1) true junk gs go hn1;rw [hge] at r1;(have fa:= @AF.eq_1;(repeat' first|refine zQ ?_|refine zN ?_;intro K hC hK|refine zM ?_;try clear hK hC K|refine zC ?_ ?_<;>intro hb|refine zK ?_;intro Jo JU JC AH AJ AG)<;>(try clear fa))
     unfold Me at P;dsimp only at P;with_reducible apply Ap.obj [0,1,2,3,4,5,6,7,8,9,10] P
     ·first|rfl|((have fa:=(And.intro @AA.eq_1 (And.intro @AF.eq_1 @Ae.eq_1));first|exact AK|(refine zE ?_;try clear fa));done)|((have fa:=(And.intro @AA.eq_1 (And.intro @AF.eq_1 @Ae.eq_1));first|exact AK|(refine zE ?_;try clear fa));rfl)
     ·first|rfl|((have fa:=(And.intro @AA.eq_1 (And.intro @AF.eq_1 @Ae.eq_1));first|exact AK|(refine zE ?_;try clear fa));done)|((have fa:=(And.intro @AA.eq_1 (And.intro @AF.eq_1 @Ae.eq_1));first|exact AK|(refine zE ?_;try clear fa));rfl)
     ·decide
     ·intro r hr;simp at hr;rcases hr with rfl|rfl|rfl|rfl|rfl|rfl|rfl|rfl|rfl|rfl|rfl<;>exact ⟨_,_,_,rfl⟩
     ·refine ⟨by (have fa:=(And.intro @AA.eq_1 (And.intro @AF.eq_1 @Ae.eq_1));first|exact AK|(refine zE ?_;try clear fa)),?_⟩;intro r hr g sz es he;simp at hr;rcases hr with rfl|rfl|rfl|rfl|rfl|rfl|rfl|rfl|rfl|rfl|rfl;all_goals
       injection he with h1 h2 h3
       subst h1 h2 h3;first|rfl|((have fa:=(And.intro @AA.eq_1 (And.intro @AF.eq_1 @Ae.eq_1));first|exact AK|(refine zE ?_;try clear fa));done)|((have fa:=(And.intro @AA.eq_1 (And.intro @AF.eq_1 @Ae.eq_1));first|exact AK|(refine zE ?_;try clear fa));rfl)
     rintro v hl ⟨rfl,jk2,g3,o3,rfl⟩;refine ⟨⟨by simp,by simp⟩,?_,?_⟩
     ·intro p hp;simp at hp;rcases hp with rfl|rfl|rfl|rfl|rfl|rfl|rfl|rfl|rfl|rfl|rfl<;>intro h<;>simp at h
     (have fa:=(And.intro @AA.eq_1 (And.intro @AF.eq_1 @Ae.eq_1));first|exact AK|(refine zE ?_;try clear fa))
     refine AG _ _ _ ?_;clear AH AJ AG Jo JU JC;(repeat' first|refine zQ ?_|refine zN ?_;intro K hC hK|refine zM ?_;try clear hK hC K|refine zC ?_ ?_<;>intro hb|refine zK ?_;intro Jo JU JC AH AJ AG)
     exact hC1.go [(0,0),(1,1),(2,2),(3,3),(4,4),(5,5),(6,6),(7,7),(8,8),(9,9),(10,10)] 0 [1,6,7,8,9,10] 900 _ _ (by exact ⟨by decide,by decide,by decide⟩) (key1 jk2 g3 o3) (by (have fa:=(And.intro @AA.eq_1 (And.intro @AF.eq_1 @Ae.eq_1));exact C8))
    ·rw [if_neg hc] at hn1;rw [hge] at hc;(have fa:= @AF.eq_1;(repeat' first|refine zQ ?_|refine zN ?_;intro K hC hK|refine zM ?_;try clear hK hC K|refine zC ?_ ?_<;>intro hb|refine zK ?_;intro Jo JU JC AH AJ AG)<;>(try clear fa))
     all_goals first
     |(exfalso;exact hc ⟨by assumption,by assumption,by assumption⟩)
     |(exact hC1.go [(0,0),(1,1),(2,2),(3,3),(4,4),(5,5),(6,6),(7,7),(8,8),(9,9),(10,10)] 0 [1,6,7,8,9,10] 900 _ _ (by exact ⟨by decide,by decide,by decide⟩) (key1 junk gs go) (by (have fa:=(And.intro @AA.eq_1 (And.intro @AF.eq_1 @Ae.eq_1));exact C8)))
   clear hK0;rcases List.eq_nil_or_concat so with rfl|⟨so',p,rfl⟩
   ·(repeat' first|refine zQ ?_|refine zN ?_;intro K hC hK|refine zM ?_;try clear hK hC K|refine zC ?_ ?_<;>intro hb|refine zK ?_;intro Jo JU JC AH AJ AG)
    exact hC0.go [(0,0),(1,1),(2,2),(3,3),(4,4),(5,5),(6,6),(7,7),(8,8),(9,9),(10,10)] 0 [1,2,6,7,8,9,10] 900 _ _ (by exact ⟨by decide,by decide,by decide⟩) (key0 0 rfl) (by (have fa:=(And.intro @AA.eq_1 (And.intro @AF.eq_1 @Ae.eq_1));exact C8))
   ·rw [List.concat_eq_append] at *;have hsl:so'.length+1≤1000:=by simp at hso;omega
    have e11:((((so'.length+1:Nat):Int)-1).toNat)=so'.length:=by omega
    have e12:Dv (List.map AZ (so' ++[p]++junk)) so'.length=AZ p:=by simp [Dv]
    have hlast:BZ (so' ++[p]).getLast? (j:Int)=if p.kd=(j:Int) then p.wh else 0:=by simp [BZ]
    by_cases hpk:p.kd=(j:Int)
    ·rw [if_pos hpk] at hlast;(have fa:=(And.intro e11 e12);(repeat' first|refine zQ ?_|refine zN ?_;intro K hC hK|refine zM ?_;try clear hK hC K|refine zC ?_ ?_<;>intro hb|refine zK ?_;intro Jo JU JC AH AJ AG)<;>(try clear fa))
     exact hC0.go [(0,0),(1,1),(2,2),(3,3),(4,4),(5,5),(6,6),(7,7),(8,8),(9,9),(10,10)] 0 [1,2,6,7,8,9,10] 900 _ _ (by exact ⟨by decide,by decide,by decide⟩) (key0 _ hlast) (by (have fa:=(And.intro @AA.eq_1 (And.intro @AF.eq_1 @Ae.eq_1));exact C8))
    ·rw [if_neg hpk] at hlast;(have fa:=(And.intro e11 e12);(repeat' first|refine zQ ?_|refine zN ?_;intro K hC hK|refine zM ?_;try clear hK hC K|refine zC ?_ ?_<;>intro hb|refine zK ?_;intro Jo JU JC AH AJ AG)<;>(try clear fa))
     exact hC0.go [(0,0),(1,1),(2,2),(3,3),(4,4),(5,5),(6,6),(7,7),(8,8),(9,9),(10,10)] 0 [1,2,6,7,8,9,10] 900 _ _ (by exact ⟨by decide,by decide,by decide⟩) (key0 _ hlast) (by (have fa:=(And.intro @AA.eq_1 (And.intro @AF.eq_1 @Ae.eq_1));exact C8))
 ·have hj:j=left.length:=by omega
  have hfk:AB left=left.length:=by omega
  exact absurd hlt1 (by omega)
set_option maxHeartbeats 8000000 in
theorem fJ (s:AL) (hv:AP s=0) (f:Nat) (ihC:∀(k:Nat) (x:Sx) (w:List Gp),FP s f k x→DT s f x=[]→I5 s k x w) (k:Nat) (x:Sx) (w:List Gp) (hp:FP s (f+1) k x) (hlt1:AB x.left<x.left.length) (hn1:Li s f x=[]) (hn2:Lq s f x=[]) (hn3:MY s f x=[]):I5 s k x w:=by
 obtain ⟨left,pd,so,junk,gs,go⟩:=x;have hK:AY s≤60:=by have:=Bd s;omega
 have hln:=hp.ln;have hso:=hp.so;have hle:=hp.le;have hfl:=BG left;dsimp only at hln hso hle;dsimp only at hlt1;unfold I5;dsimp only;refine FL 11 Tryz.ntmps158 ?_;let tb:=Fd;let lv:=Ed;(repeat' first|refine zQ ?_|refine zN ?_;intro K hC hK|refine zM ?_;try clear hK hC K|refine zC ?_ ?_<;>intro hb|refine zK ?_;intro Jo JU JC AH AJ AG)
 refine DU (fun m σ=>∃j:Nat,m=left.length-j∧k≤j∧j≤AB left∧σ=⟨900,[(1, .ref 1 0 0 0),(2, .ref 2 0 0 0),(3, .ref 3 0 0 0),(4, .ref 4 0 0 0),(5, .ref 5 0 0 0),(6, .ref 6 0 0 0),(7, .ref 0 0 0 0),(8, .ref 11 0 0 0)],[(0, .arr 0 9 [AO s]),(1, .arr 0 1 [.rsl 7 1 0 left.length]),(2, .arr 0 1 [B pd]),(3, .arr 0 1 [.rsl 9 go 0 1]),(4, .arr 0 1 [.rsl 8 gs 0 so.length]),(5, .arr 0 1 [AA]),(6, .arr 0 1 [AF]),(7, .arr 1 1 (left.map I)),(8, .arr gs 3 ((so++junk).map AZ)),(9, .arr go 1 [.rsl 10 1 0 w.length]),(10, .arr 1 3 (w.map AZ)),(11, .arr 0 1 [I j])]⟩) [(0,0),(1,1),(2,2),(3,3),(4,4),(5,5),(6,6),(7,7),(8,8),(9,9),(10,10),(64,11)] [(0,0),(1,1),(2,2),(3,3),(4,4),(5,5),(6,6),(7,7),(8,8),(9,9),(10,10),(11,11)] 0 [1,2,3,4,5,6,7,8] 900 zg zg ⟨_,k,rfl,Nat.le_refl _,hle,by (have fa:=(And.intro @AA.eq_1 @AF.eq_1);exact zV)⟩ ?_;rintro m σ' ⟨j,rfl,hj1,hj2,rfl⟩ J hcJ hJ;have hlt0:=Bf left;have hne0:=Bu left;by_cases hlt:j<left.length
 ·have hge:left.getD j 0=left[j]:=by simp [hlt]
  by_cases hz:left[j]=0
  ·(have fa:=hz;(repeat' first|refine zQ ?_|refine zN ?_;intro K hC hK|refine zM ?_;try clear hK hC K|refine zC ?_ ?_<;>intro hb|refine zK ?_;intro Jo JU JC AH AJ AG)<;>(try clear fa))
   refine hJ _ _ (show left.length-(j+1)<left.length-j by omega) ⟨j+1,rfl,by omega,?_,by (have fa:=(And.intro @AA.eq_1 @AF.eq_1);exact zV)⟩;rcases Nat.lt_or_ge j (AB left) with h|h
   ·exact h
   ·exfalso;have:j=AB left:=by omega
    subst this;exact hne0 hlt (by rw [hge];exact hz)
  ·have hj:j=AB left:=by
    rcases Nat.lt_or_ge j (AB left) with h|h
    ·exact absurd (hlt0 j h) (by rw [hge];exact hz)
    ·omega
   obtain ⟨q,hq⟩:∃q,AB left=q:=⟨_,rfl⟩;rw [hq] at hj;subst hj;(repeat' first|refine Vf ?_|refine zN ?_;intro K hC hK|refine zM ?_;try clear hK hC K|refine zK ?_;intro Jo JU JC AH AJ AG)
   refine E2 (by first|rfl|skip) (by first|rfl|(simp;omega)) ?_;(repeat' first|refine Vf ?_|refine zN ?_;intro K hC hK|refine zM ?_;try clear hK hC K|refine zK ?_;intro Jo JU JC AH AJ AG)
   refine E2 rfl (by simp;omega) ?_;refine FW ?_;repeat first|(with_reducible refine DO ?_)|(with_reducible refine Cw ?_)
   refine hK _ ?_;refine Gg fun K0 hC0 hK0=> ?_
   have W4:=fun hc=>TA hp hlt1 hc
   have W2:=fun hc=>Sk hp hlt1 hc
   have W1:=fun hr h1 h2=>SO hp hlt1 hr h1 h2
   dsimp only at W4 W2 W1;rw [hq] at W4 W2 W1;rw [Ij s f left pd so junk gs go hq] at hn3;have nx:∀(wh:Int) (wy:N5 s ⟨left,pd,so,junk,gs,go⟩ wh) (pd' :Bool) (gs' go' :Nat),FP s f j ⟨Ah left (AI wh j),pd',so++[gp wh j],[],gs',go'⟩:=fun wh wy pd' gs' go' =>by
    have:=wy.next hp pd' gs' go';dsimp only at this;rw [hq] at this;exact this
   have bd:∀i,-1000≤left.getD i 0∧left.getD i 0≤1000:=fun i=>by have:=hp.sb i;dsimp only at this;omega
   have putC' :∀(wh:Int) (wy:N5 s ⟨left,pd,so,junk,gs,go⟩ wh) (pd' :Bool) (jk:List Gp) (gs' go' :Nat),DT s f ⟨Ah left (AI wh j),pd',so++[gp wh j],[],0,0⟩=[]→Mb s j (gp wh j) ⟨left,pd',so,jk,gs',go'⟩ w:=fun wh wy pd' jk gs' go' hnn=>by
    have hg:=wy.gr;have hi:=wy.inb;dsimp only at hg hi;rw [hq] at hg hi;exact Wd s j (gp wh j) ⟨left,pd',so,jk,gs',go'⟩ w hv hg hi bd (by dsimp only;omega) (by dsimp only;omega) fun g2=>eK s j _ w (ihC j _ w (nx wh wy pd' g2 go') hnn)
   clear nx;have key0:∀last:Int,BZ so.getLast? j=last→K0 ⟨900,[(1, .ref 1 0 0 0),(2, .ref 2 0 0 0),(6, .ref 6 0 0 0),(7, .ref 0 0 0 0),(8, .ref 11 0 0 0),(9, .clo 160 [.ref 5 0 0 0, .ref 11 0 0 0]),(10,I last)],[(0, .arr 0 9 [AO s]),(1, .arr 0 1 [.rsl 7 1 0 left.length]),(2, .arr 0 1 [B pd]),(3, .arr 0 1 [.rsl 9 go 0 1]),(4, .arr 0 1 [.rsl 8 gs 0 so.length]),(5, .arr 0 1 [AA]),(6, .arr 0 1 [AF]),(7, .arr 1 1 (left.map I)),(8, .arr gs 3 ((so++junk).map AZ)),(9, .arr go 1 [.rsl 10 1 0 w.length]),(10, .arr 1 3 (w.map AZ)),(11, .arr 0 1 [I j])]⟩:=by
    intro last hlast;rw [IS s f left pd so junk gs go hq hlast] at hn1;rw [Ib s f left pd so junk gs go hq hlast] at hn2;refine hK0 _ ?_;refine D1 fun K1 hC1 hK1=> ?_
    have key1:∀(jk:List Gp) (g2 o2:Nat),K1 ⟨900,[(1, .ref 1 0 0 0),(6, .ref 6 0 0 0),(7, .ref 0 0 0 0),(8, .ref 11 0 0 0),(9, .clo 160 [.ref 5 0 0 0, .ref 11 0 0 0]),(10,I last)],[(0, .arr 0 9 [AO s]),(1, .arr 0 1 [.rsl 7 1 0 left.length]),(2, .arr 0 1 [B pd]),(3, .arr 0 1 [.rsl 9 o2 0 1]),(4, .arr 0 1 [.rsl 8 g2 0 so.length]),(5, .arr 0 1 [AA]),(6, .arr 0 1 [AF]),(7, .arr 1 1 (left.map I)),(8, .arr g2 3 ((so++jk).map AZ)),(9, .arr o2 1 [.rsl 10 1 0 w.length]),(10, .arr 1 3 (w.map AZ)),(11, .arr 0 1 [I j])]⟩:=by
     intro jk g2 o2;refine hK1 _ ?_;refine D1 fun K2 hC2 hK2=> ?_
     have key2:∀(jk:List Gp) (g2 o2:Nat),K2 ⟨900,[(6, .ref 6 0 0 0),(7, .ref 0 0 0 0),(8, .ref 11 0 0 0),(9, .clo 160 [.ref 5 0 0 0, .ref 11 0 0 0]),(1, .ref 1 0 0 0)],[(0, .arr 0 9 [AO s]),(1, .arr 0 1 [.rsl 7 1 0 left.length]),(2, .arr 0 1 [B pd]),(3, .arr 0 1 [.rsl 9 o2 0 1]),(4, .arr 0 1 [.rsl 8 g2 0 so.length]),(5, .arr 0 1 [AA]),(6, .arr 0 1 [AF]),(7, .arr 1 1 (left.map I)),(8, .arr g2 3 ((so++jk).map AZ)),(9, .arr o2 1 [.rsl 10 1 0 w.length]),(10, .arr 1 3 (w.map AZ)),(11, .arr 0 1 [I j])]⟩:=by
      intro jk g2 o2;refine hK2 _ ?_;have CR:=Er s (j:Int);by_cases hc:AT s (j:Int)=true∧0<left.getD (j+1) 0∧0<left.getD (j+2) 0
      ·obtain ⟨r1,r2,r3⟩:=hc;rw [if_pos ⟨r1,r2,r3⟩] at hn3;have hkr:=Ct r1;have hj1' :j+1<left.length:=by omega
       have hj2' :j+2<left.length:=by omega
       have q1:left.getD (j+1) 0=left[j+1]:=by simp [hj1']
       have q2:left.getD (j+2) 0=left[j+2]:=by simp [hj2']
       have P1:=putC' 1 (W1 r1 r2 r3) pd jk g2 o2 hn3;rw [r1] at CR;(have fa:= @AF.eq_1;(repeat' first|refine zS CR ?_|refine zQ ?_|refine zN ?_;intro K hC hK|refine zM ?_;try clear hK hC K|refine zC ?_ ?_<;>intro hb|refine zK ?_;intro Jo JU JC AH AJ AG)<;>(try clear fa))
       unfold Mb at P1;dsimp only at P1;with_reducible apply Ap.obj [0,1,2,3,4,5,6,7,8,9,11,10] P1
       ·first|rfl|((have fa:=(And.intro @AA.eq_1 (And.intro @AF.eq_1 @Ae.eq_1));first|exact AK|(refine zE ?_;try clear fa));done)|((have fa:=(And.intro @AA.eq_1 (And.intro @AF.eq_1 @Ae.eq_1));first|exact AK|(refine zE ?_;try clear fa));rfl)
       ·first|rfl|((have fa:=(And.intro @AA.eq_1 (And.intro @AF.eq_1 @Ae.eq_1));first|exact AK|(refine zE ?_;try clear fa));done)|((have fa:=(And.intro @AA.eq_1 (And.intro @AF.eq_1 @Ae.eq_1));first|exact AK|(refine zE ?_;try clear fa));rfl)
       ·decide
       ·intro r hr;simp at hr;rcases hr with rfl|rfl|rfl|rfl|rfl|rfl|rfl|rfl|rfl|rfl|rfl|rfl<;>exact ⟨_,_,_,rfl⟩
       ·refine ⟨by (have fa:=(And.intro @AA.eq_1 (And.intro @AF.eq_1 @Ae.eq_1));first|exact AK|(refine zE ?_;try clear fa)),?_⟩;intro r hr g sz es he;simp at hr;rcases hr with rfl|rfl|rfl|rfl|rfl|rfl|rfl|rfl|rfl|rfl|rfl|rfl;all_goals
         injection he with h1 h2 h3
         subst h1 h2 h3;first|rfl|((have fa:=(And.intro @AA.eq_1 (And.intro @AF.eq_1 @Ae.eq_1));first|exact AK|(refine zE ?_;try clear fa));done)|((have fa:=(And.intro @AA.eq_1 (And.intro @AF.eq_1 @Ae.eq_1));first|exact AK|(refine zE ?_;try clear fa));rfl)
       rintro v hl ⟨rfl,jk2,g3,o3,rfl⟩;refine ⟨⟨by simp,by simp⟩,?_,?_⟩
       ·intro p hp;simp at hp;rcases hp with rfl|rfl|rfl|rfl|rfl|rfl|rfl|rfl|rfl|rfl|rfl|rfl<;>intro h<;>simp at h
       (have fa:=(And.intro @AA.eq_1 (And.intro @AF.eq_1 @Ae.eq_1));first|exact AK|(refine zE ?_;try clear fa))
       refine AG _ _ _ ?_;clear AH AJ AG Jo JU JC;(repeat' first|refine zQ ?_|refine zN ?_;intro K hC hK|refine zM ?_;try clear hK hC K|refine zC ?_ ?_<;>intro hb|refine zK ?_;intro Jo JU JC AH AJ AG)
       refine Kh [(0,0),(1,1),(2,2),(3,3),(4,4),(5,5),(6,6),(7,7),(8,8),(9,9),(10,10)] ?_ ?_<;>(first|exact AK|refine zE ?_);exact ⟨jk2,g3,o3,by first|rfl|((have fa:=(And.intro @AA.eq_1 (And.intro @AF.eq_1 @Ae.eq_1));first|exact AK|(refine zE ?_;try clear fa));done)|((have fa:=(And.intro @AA.eq_1 (And.intro @AF.eq_1 @Ae.eq_1));first|exact AK|(refine zE ?_;try clear fa));rfl)⟩
      ·rw [if_neg hc] at hn3;by_cases r1:AT s (j:Int)=true
       ·have hkr:=Ct r1;have hj1' :j+1<left.length:=by omega
        have hj2' :j+2<left.length:=by omega
        have q1:left.getD (j+1) 0=left[j+1]:=by simp [hj1']
        have q2:left.getD (j+2) 0=left[j+2]:=by simp [hj2']
        rw [r1] at CR;rw [q1,q2] at hc;(have fa:= @AF.eq_1;(repeat' first|refine zS CR ?_|refine zQ ?_|refine zN ?_;intro K hC hK|refine zM ?_;try clear hK hC K|refine zC ?_ ?_<;>intro hb|refine zK ?_;intro Jo JU JC AH AJ AG)<;>(try clear fa))
        all_goals first
        |(exfalso;exact hc ⟨r1,by assumption,by assumption⟩)
        |skip
        all_goals
         refine Kh [(0,0),(1,1),(2,2),(3,3),(4,4),(5,5),(6,6),(7,7),(8,8),(9,9),(10,10)] ?_ ?_<;>(first|exact AK|refine zE ?_);exact ⟨jk,g2,o2,by first|rfl|((have fa:=(And.intro @AA.eq_1 (And.intro @AF.eq_1 @Ae.eq_1));first|exact AK|(refine zE ?_;try clear fa));done)|((have fa:=(And.intro @AA.eq_1 (And.intro @AF.eq_1 @Ae.eq_1));first|exact AK|(refine zE ?_;try clear fa));rfl)⟩
       ·rw [show AT s (j:Int)=false by simpa using r1] at CR;(have fa:= @AF.eq_1;(repeat' first|refine zS CR ?_|refine zQ ?_|refine zN ?_;intro K hC hK|refine zM ?_;try clear hK hC K|refine zC ?_ ?_<;>intro hb|refine zK ?_;intro Jo JU JC AH AJ AG)<;>(try clear fa))
        all_goals
         refine Kh [(0,0),(1,1),(2,2),(3,3),(4,4),(5,5),(6,6),(7,7),(8,8),(9,9),(10,10)] ?_ ?_<;>(first|exact AK|refine zE ?_);exact ⟨jk,g2,o2,by first|rfl|((have fa:=(And.intro @AA.eq_1 (And.intro @AF.eq_1 @Ae.eq_1));first|exact AK|(refine zE ?_;try clear fa));done)|((have fa:=(And.intro @AA.eq_1 (And.intro @AF.eq_1 @Ae.eq_1));first|exact AK|(refine zE ?_;try clear fa));rfl)⟩
     clear hK2;by_cases hc:3≤left.getD j 0∧last≠1
     ·obtain ⟨r1,r2⟩:=hc;rw [if_pos ⟨r1,r2⟩] at hn2;have P:=putC' 2 (W2 r1) pd jk g2 o2 hn2;rw [hge] at r1;(have fa:= @AF.eq_1;(repeat' first|refine zQ ?_|refine zN ?_;intro K hC hK|refine zM ?_;try clear hK hC K|refine zC ?_ ?_<;>intro hb|refine zK ?_;intro Jo JU JC AH AJ AG)<;>(try clear fa))
      unfold Mb at P;dsimp only at P;with_reducible apply Ap.obj [0,1,2,3,4,5,6,7,8,9,11,10] P
      ·first|rfl|((have fa:=(And.intro @AA.eq_1 (And.intro @AF.eq_1 @Ae.eq_1));first|exact AK|(refine zE ?_;try clear fa));done)|((have fa:=(And.intro @AA.eq_1 (And.intro @AF.eq_1 @Ae.eq_1));first|exact AK|(refine zE ?_;try clear fa));rfl)
      ·first|rfl|((have fa:=(And.intro @AA.eq_1 (And.intro @AF.eq_1 @Ae.eq_1));first|exact AK|(refine zE ?_;try clear fa));done)|((have fa:=(And.intro @AA.eq_1 (And.intro @AF.eq_1 @Ae.eq_1));first|exact AK|(refine zE ?_;try clear fa));rfl)
      ·decide
      ·intro r hr;simp at hr;rcases hr with rfl|rfl|rfl|rfl|rfl|rfl|rfl|rfl|rfl|rfl|rfl|rfl<;>exact ⟨_,_,_,rfl⟩
      ·refine ⟨by (have fa:=(And.intro @AA.eq_1 (And.intro @AF.eq_1 @Ae.eq_1));first|exact AK|(refine zE ?_;try clear fa)),?_⟩;intro r hr g sz es he;simp at hr;rcases hr with rfl|rfl|rfl|rfl|rfl|rfl|rfl|rfl|rfl|rfl|rfl|rfl;all_goals
        injection he with h1 h2 h3
        subst h1 h2 h3;first|rfl|((have fa:=(And.intro @AA.eq_1 (And.intro @AF.eq_1 @Ae.eq_1));first|exact AK|(refine zE ?_;try clear fa));done)|((have fa:=(And.intro @AA.eq_1 (And.intro @AF.eq_1 @Ae.eq_1));first|exact AK|(refine zE ?_;try clear fa));rfl)
      rintro v hl ⟨rfl,jk2,g3,o3,rfl⟩;refine ⟨⟨by simp,by simp⟩,?_,?_⟩
      ·intro p hp;simp at hp;rcases hp with rfl|rfl|rfl|rfl|rfl|rfl|rfl|rfl|rfl|rfl|rfl|rfl<;>intro h<;>simp at h
      (have fa:=(And.intro @AA.eq_1 (And.intro @AF.eq_1 @Ae.eq_1));first|exact AK|(refine zE ?_;try clear fa))
      refine AG _ _ _ ?_;clear AH AJ AG Jo JU JC;(repeat' first|refine zQ ?_|refine zN ?_;intro K hC hK|refine zM ?_;try clear hK hC K|refine zC ?_ ?_<;>intro hb|refine zK ?_;intro Jo JU JC AH AJ AG)
      exact hC2.go [(0,0),(1,1),(2,2),(3,3),(4,4),(5,5),(6,6),(7,7),(8,8),(9,9),(10,10),(11,11)] 0 [6,7,8,9,1] 900 _ _ (by exact ⟨by decide,by decide,by decide⟩) (key2 jk2 g3 o3) (by (have fa:=(And.intro @AA.eq_1 (And.intro @AF.eq_1 @Ae.eq_1));exact C8))
     ·rw [if_neg hc] at hn2;rw [hge] at hc;(have fa:= @AF.eq_1;(repeat' first|refine zQ ?_|refine zN ?_;intro K hC hK|refine zM ?_;try clear hK hC K|refine zC ?_ ?_<;>intro hb|refine zK ?_;intro Jo JU JC AH AJ AG)<;>(try clear fa))
      all_goals first
      |(exfalso;exact hc ⟨by assumption,by assumption⟩)
      |(exact hC2.go [(0,0),(1,1),(2,2),(3,3),(4,4),(5,5),(6,6),(7,7),(8,8),(9,9),(10,10),(11,11)] 0 [6,7,8,9,1] 900 _ _ (by exact ⟨by decide,by decide,by decide⟩) (key2 jk g2 o2) (by (have fa:=(And.intro @AA.eq_1 (And.intro @AF.eq_1 @Ae.eq_1));exact C8)))
    clear hK1;by_cases hc:2≤left.getD j 0∧pd=false∧last=0
    ·obtain ⟨r1,rfl,rfl⟩:=hc;rw [if_pos ⟨r1,rfl,rfl⟩] at hn1;have P:=putC' 4 (W4 r1) true junk gs go hn1;rw [hge] at r1;(have fa:= @AF.eq_1;(repeat' first|refine zQ ?_|refine zN ?_;intro K hC hK|refine zM ?_;try clear hK hC K|refine zC ?_ ?_<;>intro hb|refine zK ?_;intro Jo JU JC AH AJ AG)<;>(try clear fa))
     unfold Mb at P;dsimp only at P;with_reducible apply Ap.obj [0,1,2,3,4,5,6,7,8,9,11,10] P
     ·first|rfl|((have fa:=(And.intro @AA.eq_1 (And.intro @AF.eq_1 @Ae.eq_1));first|exact AK|(refine zE ?_;try clear fa));done)|((have fa:=(And.intro @AA.eq_1 (And.intro @AF.eq_1 @Ae.eq_1));first|exact AK|(refine zE ?_;try clear fa));rfl)
     ·first|rfl|((have fa:=(And.intro @AA.eq_1 (And.intro @AF.eq_1 @Ae.eq_1));first|exact AK|(refine zE ?_;try clear fa));done)|((have fa:=(And.intro @AA.eq_1 (And.intro @AF.eq_1 @Ae.eq_1));first|exact AK|(refine zE ?_;try clear fa));rfl)
     ·decide
     ·intro r hr;simp at hr;rcases hr with rfl|rfl|rfl|rfl|rfl|rfl|rfl|rfl|rfl|rfl|rfl|rfl<;>exact ⟨_,_,_,rfl⟩
     ·refine ⟨by (have fa:=(And.intro @AA.eq_1 (And.intro @AF.eq_1 @Ae.eq_1));first|exact AK|(refine zE ?_;try clear fa)),?_⟩;intro r hr g sz es he;simp at hr;rcases hr with rfl|rfl|rfl|rfl|rfl|rfl|rfl|rfl|rfl|rfl|rfl|rfl;all_goals
       injection he with h1 h2 h3
       subst h1 h2 h3;first|rfl|((have fa:=(And.intro @AA.eq_1 (And.intro @AF.eq_1 @Ae.eq_1));first|exact AK|(refine zE ?_;try clear fa));done)|((have fa:=(And.intro @AA.eq_1 (And.intro @AF.eq_1 @Ae.eq_1));first|exact AK|(refine zE ?_;try clear fa));rfl)
     rintro v hl ⟨rfl,jk2,g3,o3,rfl⟩;refine ⟨⟨by simp,by simp⟩,?_,?_⟩
     ·intro p hp;simp at hp;rcases hp with rfl|rfl|rfl|rfl|rfl|rfl|rfl|rfl|rfl|rfl|rfl|rfl<;>intro h<;>simp at h
     (have fa:=(And.intro @AA.eq_1 (And.intro @AF.eq_1 @Ae.eq_1));first|exact AK|(refine zE ?_;try clear fa))
     refine AG _ _ _ ?_;clear AH AJ AG Jo JU JC;(repeat' first|refine zQ ?_|refine zN ?_;intro K hC hK|refine zM ?_;try clear hK hC K|refine zC ?_ ?_<;>intro hb|refine zK ?_;intro Jo JU JC AH AJ AG)
     exact hC1.go [(0,0),(1,1),(2,2),(3,3),(4,4),(5,5),(6,6),(7,7),(8,8),(9,9),(10,10),(11,11)] 0 [1,6,7,8,9,10] 900 _ _ (by exact ⟨by decide,by decide,by decide⟩) (key1 jk2 g3 o3) (by (have fa:=(And.intro @AA.eq_1 (And.intro @AF.eq_1 @Ae.eq_1));exact C8))
    ·rw [if_neg hc] at hn1;rw [hge] at hc;(have fa:= @AF.eq_1;(repeat' first|refine zQ ?_|refine zN ?_;intro K hC hK|refine zM ?_;try clear hK hC K|refine zC ?_ ?_<;>intro hb|refine zK ?_;intro Jo JU JC AH AJ AG)<;>(try clear fa))
     all_goals first
     |(exfalso;exact hc ⟨by assumption,by assumption,by assumption⟩)
     |(exact hC1.go [(0,0),(1,1),(2,2),(3,3),(4,4),(5,5),(6,6),(7,7),(8,8),(9,9),(10,10),(11,11)] 0 [1,6,7,8,9,10] 900 _ _ (by exact ⟨by decide,by decide,by decide⟩) (key1 junk gs go) (by (have fa:=(And.intro @AA.eq_1 (And.intro @AF.eq_1 @Ae.eq_1));exact C8)))
   clear hK0;rcases List.eq_nil_or_concat so with rfl|⟨so',p,rfl⟩
   ·(repeat' first|refine zQ ?_|refine zN ?_;intro K hC hK|refine zM ?_;try clear hK hC K|refine zC ?_ ?_<;>intro hb|refine zK ?_;intro Jo JU JC AH AJ AG)
    exact hC0.go [(0,0),(1,1),(2,2),(3,3),(4,4),(5,5),(6,6),(7,7),(8,8),(9,9),(10,10),(11,11)] 0 [1,2,6,7,8,9,10] 900 _ _ (by exact ⟨by decide,by decide,by decide⟩) (key0 0 rfl) (by (have fa:=(And.intro @AA.eq_1 (And.intro @AF.eq_1 @Ae.eq_1));exact C8))
   ·rw [List.concat_eq_append] at *;have hsl:so'.length+1≤1000:=by simp at hso;omega
    have e11:((((so'.length+1:Nat):Int)-1).toNat)=so'.length:=by omega
    have e12:Dv (List.map AZ (so' ++[p]++junk)) so'.length=AZ p:=by simp [Dv]
    have hlast:BZ (so' ++[p]).getLast? (j:Int)=if p.kd=(j:Int) then p.wh else 0:=by simp [BZ]
    by_cases hpk:p.kd=(j:Int)
    ·rw [if_pos hpk] at hlast;(have fa:=(And.intro e11 e12);(repeat' first|refine zQ ?_|refine zN ?_;intro K hC hK|refine zM ?_;try clear hK hC K|refine zC ?_ ?_<;>intro hb|refine zK ?_;intro Jo JU JC AH AJ AG)<;>(try clear fa))
     exact hC0.go [(0,0),(1,1),(2,2),(3,3),(4,4),(5,5),(6,6),(7,7),(8,8),(9,9),(10,10),(11,11)] 0 [1,2,6,7,8,9,10] 900 _ _ (by exact ⟨by decide,by decide,by decide⟩) (key0 _ hlast) (by (have fa:=(And.intro @AA.eq_1 (And.intro @AF.eq_1 @Ae.eq_1));exact C8))
    ·rw [if_neg hpk] at hlast;(have fa:=(And.intro e11 e12);(repeat' first|refine zQ ?_|refine zN ?_;intro K hC hK|refine zM ?_;try clear hK hC K|refine zC ?_ ?_<;>intro hb|refine zK ?_;intro Jo JU JC AH AJ AG)<;>(try clear fa))
     exact hC0.go [(0,0),(1,1),(2,2),(3,3),(4,4),(5,5),(6,6),(7,7),(8,8),(9,9),(10,10),(11,11)] 0 [1,2,6,7,8,9,10] 900 _ _ (by exact ⟨by decide,by decide,by decide⟩) (key0 _ hlast) (by (have fa:=(And.intro @AA.eq_1 (And.intro @AF.eq_1 @Ae.eq_1));exact C8))
 ·have hj:j=left.length:=by omega
  have hfk:AB left=left.length:=by omega
  exact absurd hlt1 (by omega)
end Go.Proofs.YthblfhgofopcaaaGreat
