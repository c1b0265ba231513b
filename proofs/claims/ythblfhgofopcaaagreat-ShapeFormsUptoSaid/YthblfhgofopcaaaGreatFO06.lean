/-
  Parts of the proof: FrmF, SplZ.
-/
import Derived.Test.YthblfhgofopcaaaGreatSH13
import Derived.Test.YthblfhgofopcaaaGreatSH14
import Derived.Test.YthblfhgofopcaaaGreatSH23
import Derived.Test.YthblfhgofopcaaaGreatFO04
import Derived.Test.YthblfhgofopcaaaGreatFO05
import Derived.Test.YthblfhgofopcaaaGreatFO03
import Derived.Shelf.SlSortCmp.NoneTotal
set_option linter.all false
namespace Go.Proofs.YthblfhgofopcaaaGreat
open Go.RowKit
set_option maxRecDepth 100000
set_option maxHeartbeats 2000000
set_option maxHeartbeats 8000000 in
theorem iF (s:AL) (hv:AP s=0):∀(f k:Nat) (x:Sx) (out:List (List Gp)),FP s f k x→out.length+3 ^ f≤1000000000→QQ s k x out (DT s f x):=by
 intro f;induction f with
 | zero =>
  intro k x out hp _;have h1:=hp.sm;have h2:=DQ (l:=x.left) fun i=>(hp.sb i).1
  exact absurd h1 (by omega)
 | succ f ih =>
  rintro k ⟨left,pd,so,junk,gs,go⟩ out hp hlen;have hK:AY s≤60:=by have:=Bd s;omega
  have hln:=hp.ln;have hso:=hp.so;have hle:=hp.le;have hfl:=BG left;dsimp only at hln hso hle;have h3f:3 ^ (f+1)=3 ^ f+3 ^ f+3 ^ f:=by rw [Nat.pow_succ];omega
  have h3p:1≤3 ^ f:=Nat.one_le_pow _ _ (by omega);obtain ⟨N,hN⟩:∃N,DT s (f+1) ⟨left,pd,so,junk,gs,go⟩=N:=⟨_,rfl⟩;rw [hN];unfold QQ;dsimp only;refine FL 10 Tryz.ntmps158 ?_;let tb:=Fd;let lv:=Ed;(repeat' first|refine zQ ?_|refine zN ?_;intro K hC hK|refine zM ?_;try clear hK hC K|refine zC ?_ ?_<;>intro hb|refine zK ?_;intro Jo JU JC AH AJ AG)
  refine DU (fun m σ=>∃j:Nat,m=left.length-j∧k≤j∧j≤AB left∧σ=⟨900,[(1, .ref 1 0 0 0),(2, .ref 2 0 0 0),(3, .ref 3 0 0 0),(4, .ref 4 0 0 0),(5, .ref 5 0 0 0),(6, .ref 6 0 0 0),(7, .ref 0 0 0 0),(8, .ref 10 0 0 0)],[(0, .arr 0 9 [AO s]),(1, .arr 0 1 [.rsl 7 1 0 left.length]),(2, .arr 0 1 [B pd]),(3, .arr 0 1 [.rsl 9 go 0 out.length]),(4, .arr 0 1 [.rsl 8 gs 0 so.length]),(5, .arr 0 1 [AA]),(6, .arr 0 1 [AF]),(7, .arr 1 1 (left.map I)),(8, .arr gs 3 ((so++junk).map AZ)),(9, .arr go 1 (out.map (AX false))),(10, .arr 0 1 [I j])]⟩) [(0,0),(1,1),(2,2),(3,3),(4,4),(5,5),(6,6),(7,7),(8,8),(9,9),(64,10)] [(0,0),(1,1),(2,2),(3,3),(4,4),(5,5),(6,6),(7,7),(8,8),(9,9),(10,10)] 0 [1,2,3,4,5,6,7,8] 900 zg zg ⟨_,k,rfl,Nat.le_refl _,hle,by (have fa:=(And.intro @AA.eq_1 @AF.eq_1);exact zV)⟩ ?_;rintro m σ' ⟨j,rfl,hj1,hj2,rfl⟩ J hcJ hJ;have hlt0:=Bf left;have hne0:=Bu left;by_cases hlt:j<left.length
  ·have hge:left.getD j 0=left[j]:=by simp [hlt]
   by_cases hz:left[j]=0
   ·(have fa:=hz;(repeat' first|refine zQ ?_|refine zN ?_;intro K hC hK|refine zM ?_;try clear hK hC K|refine zC ?_ ?_<;>intro hb|refine zK ?_;intro Jo JU JC AH AJ AG)<;>(try clear fa))
    refine hJ _ _ (show left.length-(j+1)<left.length-j by omega) ⟨j+1,rfl,by omega,?_,by (have fa:=(And.intro @AA.eq_1 @AF.eq_1);exact zV)⟩;rcases Nat.lt_or_ge j (AB left) with h|h
    ·exact h
    ·exfalso;have:j=AB left:=by omega
     subst this;exact hne0 hlt (by rw [hge];exact hz)
   ·have hj:j=AB left:=by
     rcases Nat.lt_or_ge j (AB left) with h|h
     ·exact absurd (hlt0 j h) (by rw [hge];exact hz)
     ·omega
    obtain ⟨q,hq⟩:∃q,AB left=q:=⟨_,rfl⟩;rw [hq] at hj;subst hj;(repeat' first|refine Vf ?_|refine zN ?_;intro K hC hK|refine zM ?_;try clear hK hC K|refine zK ?_;intro Jo JU JC AH AJ AG)
    refine E2 rfl (by first|rfl|(simp;omega)) ?_;(repeat' first|refine Vf ?_|refine zN ?_;intro K hC hK|refine zM ?_;try clear hK hC K|refine zK ?_;intro Jo JU JC AH AJ AG)
    refine E2 rfl (by simp;omega) ?_;refine FW ?_;repeat first|(with_reducible refine DO ?_)|(with_reducible refine Cw ?_)
    refine hK _ ?_;refine Gg fun K0 hC0 hK0=> ?_
    have hlt1:AB left<left.length:=by omega
    rw [OZ s f _ (by dsimp only;omega)] at hN;obtain ⟨n1,hn1⟩:∃n1,Li s f ⟨left,pd,so,junk,gs,go⟩=n1:=⟨_,rfl⟩;obtain ⟨n2,hn2⟩:∃n2,Lq s f ⟨left,pd,so,junk,gs,go⟩=n2:=⟨_,rfl⟩;obtain ⟨n3,hn3⟩:∃n3,MY s f ⟨left,pd,so,junk,gs,go⟩=n3:=⟨_,rfl⟩;rw [hn1,hn2,hn3] at hN;have l1:n1.length≤3 ^ f:=by rw [←hn1];unfold Li;split;exact ND _ _ _;simp
    have l2:n2.length≤3 ^ f:=by rw [←hn2];unfold Lq;split;exact ND _ _ _;simp
    rw [Ij s f left pd so junk gs go hq] at hn3;have w4:=fun hc=>TA hp hlt1 hc
    have w2:=fun hc=>Sk hp hlt1 hc
    have w1:=fun hr h1 h2=>SO hp hlt1 hr h1 h2
    dsimp only at w4 w2 w1;rw [hq] at w4 w2 w1;have nx:∀(wh:Int) (w:N5 s ⟨left,pd,so,junk,gs,go⟩ wh) (pd' :Bool) (gs' go' :Nat),FP s f j ⟨Ah left (AI wh j),pd',so++[gp wh j],[],gs',go'⟩:=fun wh w pd' gs' go' =>by
     have:=w.next hp pd' gs' go';dsimp only at this;rw [hq] at this;exact this
    have bd:∀i,-1000≤left.getD i 0∧left.getD i 0≤1000:=fun i=>by have:=hp.sb i;dsimp only at this;omega
    have putAt:∀(wh:Int) (w:N5 s ⟨left,pd,so,junk,gs,go⟩ wh) (pd' :Bool) (jk:List Gp) (gs' go' :Nat) (o:List (List Gp)),o.length+3 ^ f≤1000000000→Up s j (gp wh j) ⟨left,pd',so,jk,gs',go'⟩ o (DT s f ⟨Ah left (AI wh j),pd',so++[gp wh j],[],0,0⟩):=fun wh w pd' jk gs' go' o ho=>by
     have hg:=w.gr;have hi:=w.inb;dsimp only at hg hi;rw [hq] at hg hi;exact kG s j (gp wh j) ⟨left,pd',so,jk,gs',go'⟩ o _ hv hg hi bd (by dsimp only;omega) (by dsimp only;omega) fun g2=>uF s j _ o _ (ih j _ o (nx wh w pd' g2 go') ho)
    clear w4 w2 w1 nx;have W4:=fun hc=>TA hp hlt1 hc
    have W2:=fun hc=>Sk hp hlt1 hc
    have W1:=fun hr h1 h2=>SO hp hlt1 hr h1 h2
    dsimp only at W4 W2 W1;rw [hq] at W4 W2 W1;have key0:∀last:Int,BZ so.getLast? j=last→K0 ⟨900,[(1, .ref 1 0 0 0),(2, .ref 2 0 0 0),(6, .ref 6 0 0 0),(7, .ref 0 0 0 0),(8, .ref 10 0 0 0),(9, .clo 160 [.ref 5 0 0 0, .ref 10 0 0 0]),(10,I last)],[(0, .arr 0 9 [AO s]),(1, .arr 0 1 [.rsl 7 1 0 left.length]),(2, .arr 0 1 [B pd]),(3, .arr 0 1 [.rsl 9 go 0 (out).length]),(4, .arr 0 1 [.rsl 8 gs 0 so.length]),(5, .arr 0 1 [AA]),(6, .arr 0 1 [AF]),(7, .arr 1 1 (left.map I)),(8, .arr gs 3 ((so++junk).map AZ)),(9, .arr go 1 ((out).map (AX false))),(10, .arr 0 1 [I j])]⟩:=by
     intro last hlast;rw [IS s f left pd so junk gs go hq hlast] at hn1;rw [Ib s f left pd so junk gs go hq hlast] at hn2;refine hK0 _ ?_;refine D1 fun K1 hC1 hK1=> ?_
     have key1:∀(jk:List Gp) (g2 o2:Nat),K1 ⟨900,[(1, .ref 1 0 0 0),(6, .ref 6 0 0 0),(7, .ref 0 0 0 0),(8, .ref 10 0 0 0),(9, .clo 160 [.ref 5 0 0 0, .ref 10 0 0 0]),(10,I last)],[(0, .arr 0 9 [AO s]),(1, .arr 0 1 [.rsl 7 1 0 left.length]),(2, .arr 0 1 [B pd]),(3, .arr 0 1 [.rsl 9 o2 0 (out++n1).length]),(4, .arr 0 1 [.rsl 8 g2 0 so.length]),(5, .arr 0 1 [AA]),(6, .arr 0 1 [AF]),(7, .arr 1 1 (left.map I)),(8, .arr g2 3 ((so++jk).map AZ)),(9, .arr o2 1 ((out++n1).map (AX false))),(10, .arr 0 1 [I j])]⟩:=by
      intro jk g2 o2;refine hK1 _ ?_;refine D1 fun K2 hC2 hK2=> ?_
      have key2:∀(jk:List Gp) (g2 o2:Nat),K2 ⟨900,[(6, .ref 6 0 0 0),(7, .ref 0 0 0 0),(8, .ref 10 0 0 0),(9, .clo 160 [.ref 5 0 0 0, .ref 10 0 0 0]),(1, .ref 1 0 0 0)],[(0, .arr 0 9 [AO s]),(1, .arr 0 1 [.rsl 7 1 0 left.length]),(2, .arr 0 1 [B pd]),(3, .arr 0 1 [.rsl 9 o2 0 ((out++n1)++n2).length]),(4, .arr 0 1 [.rsl 8 g2 0 so.length]),(5, .arr 0 1 [AA]),(6, .arr 0 1 [AF]),(7, .arr 1 1 (left.map I)),(8, .arr g2 3 ((so++jk).map AZ)),(9, .arr o2 1 (((out++n1)++n2).map (AX false))),(10, .arr 0 1 [I j])]⟩:=by
       intro jk g2 o2;refine hK2 _ ?_;have CR:=Er s (j:Int);have hNl:out.length+N.length=((out++n1)++n2).length+n3.length:=by rw [←hN];simp;omega
       have hNe:((out++n1)++n2)++n3=out++N:=by rw [←hN];simp
       by_cases hc:AT s (j:Int)=true∧0<left.getD (j+1) 0∧0<left.getD (j+2) 0
       ·obtain ⟨r1,r2,r3⟩:=hc;rw [if_pos ⟨r1,r2,r3⟩] at hn3;have hkr:=Ct r1;have hj1' :j+1<left.length:=by omega
        have hj2' :j+2<left.length:=by omega
        have q1:left.getD (j+1) 0=left[j+1]:=by simp [hj1']
        have q2:left.getD (j+2) 0=left[j+2]:=by simp [hj2']
        have P1:=putAt 1 (W1 r1 r2 r3) pd jk g2 o2 ((out++n1)++n2) (by simp;omega);rw [hn3] at P1;rw [r1] at CR;(have fa:= @AF.eq_1;(repeat' first|refine zS CR ?_|refine zQ ?_|refine zN ?_;intro K hC hK|refine zM ?_;try clear hK hC K|refine zC ?_ ?_<;>intro hb|refine zK ?_;intro Jo JU JC AH AJ AG)<;>(try clear fa))
        unfold Up at P1;dsimp only at P1;with_reducible apply Ap.obj [0,1,2,3,4,5,6,7,8,9,10] P1
        ·first|rfl|((have fa:=(And.intro @AA.eq_1 (And.intro @AF.eq_1 @Ae.eq_1));first|exact AK|(refine zE ?_;try clear fa));done)|((have fa:=(And.intro @AA.eq_1 (And.intro @AF.eq_1 @Ae.eq_1));first|exact AK|(refine zE ?_;try clear fa));rfl)
        ·first|rfl|((have fa:=(And.intro @AA.eq_1 (And.intro @AF.eq_1 @Ae.eq_1));first|exact AK|(refine zE ?_;try clear fa));done)|((have fa:=(And.intro @AA.eq_1 (And.intro @AF.eq_1 @Ae.eq_1));first|exact AK|(refine zE ?_;try clear fa));rfl)
        ·decide
        ·intro r hr;simp at hr;rcases hr with rfl|rfl|rfl|rfl|rfl|rfl|rfl|rfl|rfl|rfl|rfl<;>exact ⟨_,_,_,rfl⟩
        ·refine ⟨by (have fa:=(And.intro @AA.eq_1 (And.intro @AF.eq_1 @Ae.eq_1));first|exact AK|(refine zE ?_;try clear fa)),?_⟩;intro r hr g sz es he;simp at hr;rcases hr with rfl|rfl|rfl|rfl|rfl|rfl|rfl|rfl|rfl|rfl|rfl;all_goals
          injection he with h1 h2 h3
          subst h1 h2 h3;first|rfl|((have fa:=(And.intro @AA.eq_1 (And.intro @AF.eq_1 @Ae.eq_1));first|exact AK|(refine zE ?_;try clear fa));done)|((have fa:=(And.intro @AA.eq_1 (And.intro @AF.eq_1 @Ae.eq_1));first|exact AK|(refine zE ?_;try clear fa));rfl)
        rintro v hl ⟨rfl,jk2,g3,o3,rfl⟩;refine ⟨⟨by simp,by simp⟩,?_,?_⟩
        ·intro p hp;simp at hp;rcases hp with rfl|rfl|rfl|rfl|rfl|rfl|rfl|rfl|rfl|rfl|rfl<;>intro h<;>simp at h
        (have fa:=(And.intro @AA.eq_1 (And.intro @AF.eq_1 @Ae.eq_1));first|exact AK|(refine zE ?_;try clear fa))
        refine AG _ _ _ ?_;clear AH AJ AG Jo JU JC;(repeat' first|refine zQ ?_|refine zN ?_;intro K hC hK|refine zM ?_;try clear hK hC K|refine zC ?_ ?_<;>intro hb|refine zK ?_;intro Jo JU JC AH AJ AG)
        refine Kh [(0,0),(1,1),(2,2),(3,3),(4,4),(5,5),(6,6),(7,7),(8,8),(9,9)] ?_ ?_<;>(first|exact AK|refine zE ?_);exact ⟨jk2,g3,o3,by rw [hNl,←hNe];first|rfl|((have fa:=(And.intro @AA.eq_1 (And.intro @AF.eq_1 @Ae.eq_1));first|exact AK|(refine zE ?_;try clear fa));done)|((have fa:=(And.intro @AA.eq_1 (And.intro @AF.eq_1 @Ae.eq_1));first|exact AK|(refine zE ?_;try clear fa));rfl)⟩
       ·rw [if_neg hc] at hn3;subst hn3;by_cases r1:AT s (j:Int)=true
        ·have hkr:=Ct r1;have hj1' :j+1<left.length:=by omega
         have hj2' :j+2<left.length:=by omega
         have q1:left.getD (j+1) 0=left[j+1]:=by simp [hj1']
         have q2:left.getD (j+2) 0=left[j+2]:=by simp [hj2']
         rw [r1] at CR;rw [q1,q2] at hc;(have fa:= @AF.eq_1;(repeat' first|refine zS CR ?_|refine zQ ?_|refine zN ?_;intro K hC hK|refine zM ?_;try clear hK hC K|refine zC ?_ ?_<;>intro hb|refine zK ?_;intro Jo JU JC AH AJ AG)<;>(try clear fa))
         all_goals first
          | (exfalso;exact hc ⟨r1,by assumption,by assumption⟩)
          | skip
         all_goals
          refine Kh [(0,0),(1,1),(2,2),(3,3),(4,4),(5,5),(6,6),(7,7),(8,8),(9,9)] ?_ ?_<;>(first|exact AK|refine zE ?_);exact ⟨jk,g2,o2,by rw [hNl,←hNe];first|rfl|((have fa:=(And.intro @AA.eq_1 (And.intro @AF.eq_1 @Ae.eq_1));first|exact AK|(refine zE ?_;try clear fa));done)|((have fa:=(And.intro @AA.eq_1 (And.intro @AF.eq_1 @Ae.eq_1));first|exact AK|(refine zE ?_;try clear fa));rfl)⟩
        ·rw [show AT s (j:Int)=false by simpa using r1] at CR;(have fa:= @AF.eq_1;(repeat' first|refine zS CR ?_|refine zQ ?_|refine zN ?_;intro K hC hK|refine zM ?_;try clear hK hC K|refine zC ?_ ?_<;>intro hb|refine zK ?_;intro Jo JU JC AH AJ AG)<;>(try clear fa))
         all_goals
          refine Kh [(0,0),(1,1),(2,2),(3,3),(4,4),(5,5),(6,6),(7,7),(8,8),(9,9)] ?_ ?_<;>(first|exact AK|refine zE ?_);exact ⟨jk,g2,o2,by rw [hNl,←hNe];first|rfl|((have fa:=(And.intro @AA.eq_1 (And.intro @AF.eq_1 @Ae.eq_1));first|exact AK|(refine zE ?_;try clear fa));done)|((have fa:=(And.intro @AA.eq_1 (And.intro @AF.eq_1 @Ae.eq_1));first|exact AK|(refine zE ?_;try clear fa));rfl)⟩
      clear hK2;by_cases hc:3≤left.getD j 0∧last≠1
      ·obtain ⟨r1,r2⟩:=hc;rw [if_pos ⟨r1,r2⟩] at hn2;have P2:=putAt 2 (W2 r1) pd jk g2 o2 (out++n1) (by simp;omega);rw [hn2] at P2;rw [hge] at r1;(have fa:= @AF.eq_1;(repeat' first|refine zQ ?_|refine zN ?_;intro K hC hK|refine zM ?_;try clear hK hC K|refine zC ?_ ?_<;>intro hb|refine zK ?_;intro Jo JU JC AH AJ AG)<;>(try clear fa))
       unfold Up at P2;dsimp only at P2;with_reducible apply Ap.obj [0,1,2,3,4,5,6,7,8,9,10] P2
       ·first|rfl|((have fa:=(And.intro @AA.eq_1 (And.intro @AF.eq_1 @Ae.eq_1));first|exact AK|(refine zE ?_;try clear fa));done)|((have fa:=(And.intro @AA.eq_1 (And.intro @AF.eq_1 @Ae.eq_1));first|exact AK|(refine zE ?_;try clear fa));rfl)
       ·first|rfl|((have fa:=(And.intro @AA.eq_1 (And.intro @AF.eq_1 @Ae.eq_1));first|exact AK|(refine zE ?_;try clear fa));done)|((have fa:=(And.intro @AA.eq_1 (And.intro @AF.eq_1 @Ae.eq_1));first|exact AK|(refine zE ?_;try clear fa));rfl)
       ·decide
       ·intro r hr;simp at hr;rcases hr with rfl|rfl|rfl|rfl|rfl|rfl|rfl|rfl|rfl|rfl|rfl<;>exact ⟨_,_,_,rfl⟩
       ·refine ⟨by (have fa:=(And.intro @AA.eq_1 (And.intro @AF.eq_1 @Ae.eq_1));first|exact AK|(refine zE ?_;try clear fa)),?_⟩;intro r hr g sz es he;simp at hr;rcases hr with rfl|rfl|rfl|rfl|rfl|rfl|rfl|rfl|rfl|rfl|rfl;all_goals
         injection he with h1 h2 h3
         subst h1 h2 h3;first|rfl|((have fa:=(And.intro @AA.eq_1 (And.intro @AF.eq_1 @Ae.eq_1));first|exact AK|(refine zE ?_;try clear fa));done)|((have fa:=(And.intro @AA.eq_1 (And.intro @AF.eq_1 @Ae.eq_1));first|exact AK|(refine zE ?_;try clear fa));rfl)
       rintro v hl ⟨rfl,jk2,g3,o3,rfl⟩;refine ⟨⟨by simp,by simp⟩,?_,?_⟩
       ·intro p hp;simp at hp;rcases hp with rfl|rfl|rfl|rfl|rfl|rfl|rfl|rfl|rfl|rfl|rfl<;>intro h<;>simp at h
       (have fa:=(And.intro @AA.eq_1 (And.intro @AF.eq_1 @Ae.eq_1));first|exact AK|(refine zE ?_;try clear fa))
       refine AG _ _ _ ?_;clear AH AJ AG Jo JU JC;(repeat' first|refine zQ ?_|refine zN ?_;intro K hC hK|refine zM ?_;try clear hK hC K|refine zC ?_ ?_<;>intro hb|refine zK ?_;intro Jo JU JC AH AJ AG)
       exact hC2.go [(0,0),(1,1),(2,2),(3,3),(4,4),(5,5),(6,6),(7,7),(8,8),(9,9),(10,10)] 0 [6,7,8,9,1] 900 _ _ (by exact ⟨by decide,by decide,by decide⟩) (key2 jk2 g3 o3) (by (have fa:=(And.intro @AA.eq_1 (And.intro @AF.eq_1 @Ae.eq_1));exact C8))
      ·rw [if_neg hc] at hn2;subst hn2;rw [hge] at hc;(repeat' first|refine zQ ?_|refine zN ?_;intro K hC hK|refine zM ?_;try clear hK hC K|refine zC ?_ ?_<;>intro hb|refine zK ?_;intro Jo JU JC AH AJ AG)
       all_goals first
        | (exfalso;exact hc ⟨by assumption,by assumption⟩)
        | exact hC2.go [(0,0),(1,1),(2,2),(3,3),(4,4),(5,5),(6,6),(7,7),(8,8),(9,9),(10,10)] 0 [6,7,8,9,1] 900 _ _ (by exact ⟨by decide,by decide,by decide⟩) (key2 jk g2 o2) (by (have fa:=(And.intro @AA.eq_1 (And.intro @AF.eq_1 @Ae.eq_1));exact C8))
     clear hK1;by_cases hc:2≤left.getD j 0∧pd=false∧last=0
     ·obtain ⟨r1,rfl,rfl⟩:=hc;rw [if_pos ⟨r1,rfl,rfl⟩] at hn1;have P4:=putAt 4 (W4 r1) true junk gs go out (by omega);rw [hn1] at P4;rw [hge] at r1;(have fa:= @AF.eq_1;(repeat' first|refine zQ ?_|refine zN ?_;intro K hC hK|refine zM ?_;try clear hK hC K|refine zC ?_ ?_<;>intro hb|refine zK ?_;intro Jo JU JC AH AJ AG)<;>(try clear fa))
      unfold Up at P4;dsimp only at P4;with_reducible apply Ap.obj [0,1,2,3,4,5,6,7,8,9,10] P4
      ·first|rfl|((have fa:=(And.intro @AA.eq_1 (And.intro @AF.eq_1 @Ae.eq_1));first|exact AK|(refine zE ?_;try clear fa));done)|((have fa:=(And.intro @AA.eq_1 (And.intro @AF.eq_1 @Ae.eq_1));first|exact AK|(refine zE ?_;try clear fa));rfl)
      ·first|rfl|((have fa:=(And.intro @AA.eq_1 (And.intro @AF.eq_1 @Ae.eq_1));first|exact AK|(refine zE ?_;try clear fa));done)|((have fa:=(And.intro @AA.eq_1 (And.intro @AF.eq_1 @Ae.eq_1));first|exact AK|(refine zE ?_;try clear fa));rfl)
      ·decide
      ·intro r hr;simp at hr;rcases hr with rfl|rfl|rfl|rfl|rfl|rfl|rfl|rfl|rfl|rfl|rfl<;>exact ⟨_,_,_,rfl⟩
      ·refine ⟨by (have fa:=(And.intro @AA.eq_1 (And.intro @AF.eq_1 @Ae.eq_1));first|exact AK|(refine zE ?_;try clear fa)),?_⟩;intro r hr g sz es he;simp at hr;rcases hr with rfl|rfl|rfl|rfl|rfl|rfl|rfl|rfl|rfl|rfl|rfl;all_goals
        injection he with h1 h2 h3
        subst h1 h2 h3;first|rfl|((have fa:=(And.intro @AA.eq_1 (And.intro @AF.eq_1 @Ae.eq_1));first|exact AK|(refine zE ?_;try clear fa));done)|((have fa:=(And.intro @AA.eq_1 (And.intro @AF.eq_1 @Ae.eq_1));first|exact AK|(refine zE ?_;try clear fa));rfl)
      rintro v hl ⟨rfl,jk2,g3,o3,rfl⟩;refine ⟨⟨by simp,by simp⟩,?_,?_⟩
      ·intro p hp;simp at hp;rcases hp with rfl|rfl|rfl|rfl|rfl|rfl|rfl|rfl|rfl|rfl|rfl<;>intro h<;>simp at h
      (have fa:=(And.intro @AA.eq_1 (And.intro @AF.eq_1 @Ae.eq_1));first|exact AK|(refine zE ?_;try clear fa))
      refine AG _ _ _ ?_;clear AH AJ AG Jo JU JC;(repeat' first|refine zQ ?_|refine zN ?_;intro K hC hK|refine zM ?_;try clear hK hC K|refine zC ?_ ?_<;>intro hb|refine zK ?_;intro Jo JU JC AH AJ AG)
      exact hC1.go [(0,0),(1,1),(2,2),(3,3),(4,4),(5,5),(6,6),(7,7),(8,8),(9,9),(10,10)] 0 [1,6,7,8,9,10] 900 _ _ (by exact ⟨by decide,by decide,by decide⟩) (key1 jk2 g3 o3) (by (have fa:=(And.intro @AA.eq_1 (And.intro @AF.eq_1 @Ae.eq_1));exact C8))
     ·rw [if_neg hc] at hn1;subst hn1;rw [hge] at hc;(repeat' first|refine zQ ?_|refine zN ?_;intro K hC hK|refine zM ?_;try clear hK hC K|refine zC ?_ ?_<;>intro hb|refine zK ?_;intro Jo JU JC AH AJ AG)
      all_goals first
       | (exfalso;exact hc ⟨by assumption,by assumption,by assumption⟩)
       | exact hC1.go [(0,0),(1,1),(2,2),(3,3),(4,4),(5,5),(6,6),(7,7),(8,8),(9,9),(10,10)] 0 [1,6,7,8,9,10] 900 _ _ (by exact ⟨by decide,by decide,by decide⟩) (key1 junk gs go) (by (have fa:=(And.intro @AA.eq_1 (And.intro @AF.eq_1 @Ae.eq_1));exact C8))
    clear hK0;rcases List.eq_nil_or_concat so with rfl|⟨so',p,rfl⟩
    ·(repeat' first|refine zQ ?_|refine zN ?_;intro K hC hK|refine zM ?_;try clear hK hC K|refine zC ?_ ?_<;>intro hb|refine zK ?_;intro Jo JU JC AH AJ AG)
     exact hC0.go [(0,0),(1,1),(2,2),(3,3),(4,4),(5,5),(6,6),(7,7),(8,8),(9,9),(10,10)] 0 [1,2,6,7,8,9,10] 900 _ _ (by exact ⟨by decide,by decide,by decide⟩) (key0 0 rfl) (by (have fa:=(And.intro @AA.eq_1 (And.intro @AF.eq_1 @Ae.eq_1));exact C8))
    ·rw [List.concat_eq_append] at *;have hsl:so'.length+1≤1000:=by simp at hso;omega
     have e11:((((so'.length+1:Nat):Int)-1).toNat)=so'.length:=by omega
     have e12:Dv (List.map AZ (so' ++[p]++junk)) so'.length=AZ p:=by simp [Dv]
     have hlast:BZ (so' ++[p]).getLast? (j:Int)=if p.kd=(j:Int) then p.wh else 0:=by simp [BZ]
     by_cases hpk:p.kd=(j:Int)
     ·rw [if_pos hpk] at hlast;(have fa:=(And.intro e11 e12);(repeat' first|refine zQ ?_|refine zN ?_;intro K hC hK|refine zM ?_;try clear hK hC K|refine zC ?_ ?_<;>intro hb|refine zK ?_;intro Jo JU JC AH AJ AG)<;>(try clear fa))
      exact hC0.go [(0,0),(1,1),(2,2),(3,3),(4,4),(5,5),(6,6),(7,7),(8,8),(9,9),(10,10)] 0 [1,2,6,7,8,9,10] 900 _ _ (by exact ⟨by decide,by decide,by decide⟩) (key0 _ hlast) (by (have fa:=(And.intro @AA.eq_1 (And.intro @AF.eq_1 @Ae.eq_1));exact C8))
     ·rw [if_neg hpk] at hlast;(have fa:=(And.intro e11 e12);(repeat' first|refine zQ ?_|refine zN ?_;intro K hC hK|refine zM ?_;try clear hK hC K|refine zC ?_ ?_<;>intro hb|refine zK ?_;intro Jo JU JC AH AJ AG)<;>(try clear fa))
      exact hC0.go [(0,0),(1,1),(2,2),(3,3),(4,4),(5,5),(6,6),(7,7),(8,8),(9,9),(10,10)] 0 [1,2,6,7,8,9,10] 900 _ _ (by exact ⟨by decide,by decide,by decide⟩) (key0 _ hlast) (by (have fa:=(And.intro @AA.eq_1 (And.intro @AF.eq_1 @Ae.eq_1));exact C8))
  ·have hj:j=left.length:=by omega
   have hfk:AB left=left.length:=by omega
   subst hj;rw [Rc s f _ hfk] at hN;cases pd with
   | true =>
    dsimp only at hN;rw [if_pos rfl] at hN;subst hN;have hne:so≠[]:=hp.pr rfl;have hpos:0<so.length:=List.length_pos_iff.2 hne;have CO:=Jw so hpos (by omega) hp.cl;have hT:(so++junk).take so.length=so:=by simp
    have hL:so.length≤so.length+junk.length:=Nat.le_add_right _ _;(have fa:=(And.intro hT (And.intro hL @Ay));(repeat' first|refine zS CO ?_|refine zQ ?_|refine zN ?_;intro K hC hK|refine zM ?_;try clear hK hC K|refine zC ?_ ?_<;>intro hb|refine zK ?_;intro Jo JU JC AH AJ AG)<;>(try clear fa))
    refine EH ?_;(repeat first|(with_reducible refine Q7 ?_)|(with_reducible refine Om ?_)|(with_reducible refine Oo ?_))
    refine ⟨_,jJ (r:=9) (g:=go+1) (sz:=1) (es:=out.map (AX false)++[AX true (CX so)]) (es' :=(out++[CX so]).map (AX false)) (by rfl) (by simp) (ZS out (CX so)), .inr rfl,?_,[(0,0),(1,1),(2,2),(3,3),(4,4),(5,5),(6,6),(7,7),(8,8),(9,9)],2,⟨by decide,by decide,by decide⟩,?_⟩
    ·(first|exact AK|refine zE ?_)
    ·refine ⟨by (first|exact AK|refine zE ?_),junk,gs,go+1,?_⟩;first|rfl|((have fa:=(And.intro @AA.eq_1 @AF.eq_1);first|exact AK|(refine zE ?_;try clear fa));done)|((have fa:=(And.intro @AA.eq_1 @AF.eq_1);first|exact AK|(refine zE ?_;try clear fa));rfl)
   | false =>
    dsimp only at hN;rw [if_neg (by simp)] at hN;subst hN;(repeat' first|refine zQ ?_|refine zN ?_;intro K hC hK|refine zM ?_;try clear hK hC K|refine zC ?_ ?_<;>intro hb|refine zK ?_;intro Jo JU JC AH AJ AG)
    refine Aa [(0,0),(1,1),(2,2),(3,3),(4,4),(5,5),(6,6),(7,7),(8,8),(9,9)] ?_ ?_<;>(first|exact AK|refine zE ?_);exact ⟨junk,gs,go,by first|rfl|((have fa:=(And.intro @AA.eq_1 (And.intro @AF.eq_1 (And.intro @List.append_nil.{0} (And.intro @List.length_nil.{0} Nat.add_zero))));first|exact AK|(refine zE ?_;try clear fa));done)|((have fa:=(And.intro @AA.eq_1 (And.intro @AF.eq_1 (And.intro @List.append_nil.{0} (And.intro @List.length_nil.{0} Nat.add_zero))));first|exact AK|(refine zE ?_;try clear fa));rfl)⟩
theorem OI (g:Nat):D3 Tryz.prog 161 [.rsl 0 g 0 0, .clo 162 []] [(0, .arr g 1 [])] (.v (.tuple #[])) [(0, .arr g 1 [])]:=by
 refine ⟨⟨_,_,Tryz.func161,rfl,rfl⟩,fun c vals hn hh hx=> ?_⟩;obtain ⟨v,v',rfl,k1,k2⟩:=IJ hx;have e0:lk [(0,Ob.arr g 1 [])] .nil 0= .arr g 1 []:=rfl;have hsl:aG c 0 0 0 v 1:=by
  cases k1 with
  | rsl _ _ _ _ _ _ hg=>rw [e0] at hg;exact hg.2 rfl
 obtain ⟨A,cap,rfl,hcap,hmax,hpos⟩:=hsl;refine (AnyF.slices_SortFunc_none (P:=Tryz.prog) (ρ:=Tryz.laysSortL_ren) { Tryz.laysSortL with } A cap v' c.w).mono ?_;rintro e w' ⟨rfl,rfl⟩;exact ⟨.tuple #[],_,_,c,rfl,rfl,⟨rfl,rfl⟩,Bj.refl _ _,hh, .v _⟩
theorem O2 {n:Nat} {rn:Int→Bool} (hr:C7 n rn) {f f' :Nat} {bag:List Int} (hb:Bg n bag) (h1:bag.sum<(f:Int)) (h2:bag.sum<(f' :Int)):Eg rn f bag=Eg rn f' bag:=by
 obtain ⟨a1,a2⟩:=Fb hr hb h1;obtain ⟨b1,b2⟩:=Fb hr hb h2;exact PF a1 b1 fun x=>(a2 x).trans (b2 x).symm
theorem NT (rn:Int→Bool):∀(f:Nat) (left:List Int) (pr:Option Gp) (pd:Bool),∀r∈Ef rn f left pr pd,r.length≤f
 | 0,_,_,_,r,h=>by simp [Ef] at h
 | f+1,left,pr,pd,r,h=>by
  have ih:=NT rn f;have h1:∀(c:Prop) [Decidable c] (g:Gp) (l:List (List Gp)),(∀x∈l,x.length≤f)→r∈(if c then l.map (g::·) else [])→r.length≤f+1:=fun c _ g l hl hr=>by
   split at hr
   ·obtain ⟨y,hy,rfl⟩:=List.mem_map.1 hr;have:=hl y hy;simp;omega
   ·cases hr
  rw [Ef] at h;split at h
  ·split at h
   ·simp at h;subst h;simp
   ·cases h
  ·rcases List.mem_append.1 h with h|h
   ·exact h1 _ _ _ (ih _ _ _) h
   ·rcases List.mem_append.1 h with h|h
    ·exact h1 _ _ _ (ih _ _ _) h
    ·exact h1 _ _ _ (ih _ _ _) h
theorem MB (s:AL) {n:Nat} (hn:(n:Int)=AY s):C7 n (AT s):=fun k h=>by have:=Ct h;omega
set_option maxHeartbeats 4000000 in
theorem Hw (s:AL) (hv:AP s=0) (bag:List Int) (hb:Sb bag) (hn:(bag.length:Int)=AY s) (hs:bag.sum≤14):AM Tryz.prog 124 [AO s,AN false bag] (EG false (Eg (AT s) 20 bag)):=by
 have hK:AY s≤60:=by have:=Bd s;omega
 have CC:=Dp bag (by omega);have CF:=iF s hv 15 0 ⟨bag,false,[],[],0,0⟩ [] ⟨hb,hn,by dsimp only;omega,Nat.zero_le _,fun i h=>absurd h (Nat.not_lt_zero i),by simp,(fun g h=>by cases h),(fun h=>by cases h)⟩ (by decide);unfold QQ at CF;dsimp only at CF;refine NH ?_;refine zb Tryz.ntmps124 ?_;let tb:=UB;let lv:=Qo;refine Pa (Ca _ (Ca _ (Ca _ (Ca _ (Ca _ (Ca _ (Ca _ (M8 _ _)))))))) fun K0 hC0 hKs=> ?_
 have hKr:=BP hKs;clear hKs;(repeat' first|refine zO CC ?_|refine zQ ?_|refine zN ?_;intro K hC hK|refine zM ?_;try clear hK hC K|refine zC ?_ ?_<;>intro hb|refine zK ?_;intro Jo JU JC AH AJ AG)
 refine hC0.w _ _ (Jv 96 0 1 600 0 3 (by rfl) (by rfl)) ?_;refine hC0.w _ _ (Jv 112 0 1 700 0 1 (by rfl) (by rfl)) ?_;refine hKr.out _ ?_;clear hKr hC0 K0;(have fa:= @Qc.eq_1;first|exact AK|(refine zE ?_;try clear fa))
 (repeat' first|refine zQ ?_|refine zN ?_;intro K hC hK|refine zM ?_;try clear hK hC K|refine zC ?_ ?_<;>intro hb|refine zK ?_;intro Jo JU JC AH AJ AG)
 obtain ⟨N,hN⟩:∃N,DT s 15 ⟨bag,false,[],[],0,0⟩=N:=⟨_,rfl⟩;rw [hN] at CF;with_reducible apply Ap.obj [0,64,128,112,96,208,176,48,600,700] CF
 ·first|rfl|((have fa:=(And.intro @AA.eq_1 @AF.eq_1);first|exact AK|(refine zE ?_;try clear fa));done)|((have fa:=(And.intro @AA.eq_1 @AF.eq_1);first|exact AK|(refine zE ?_;try clear fa));rfl)
 ·first|rfl|((have fa:=(And.intro @AA.eq_1 @AF.eq_1);first|exact AK|(refine zE ?_;try clear fa));done)|((have fa:=(And.intro @AA.eq_1 @AF.eq_1);first|exact AK|(refine zE ?_;try clear fa));rfl)
 ·decide
 ·intro r hr;simp at hr;rcases hr with rfl|rfl|rfl|rfl|rfl|rfl|rfl|rfl|rfl|rfl<;>exact ⟨_,_,_,rfl⟩
 ·refine ⟨by (first|exact AK|refine zE ?_),?_⟩;intro r hr g sz es he;simp at hr;rcases hr with rfl|rfl|rfl|rfl|rfl|rfl|rfl|rfl|rfl|rfl;all_goals
   injection he with h1 h2 h3
   subst h1 h2 h3;first|rfl|((first|exact AK|refine zE ?_);done)|((first|exact AK|refine zE ?_);rfl)
 rintro v hl ⟨rfl,junk,gs,go,rfl⟩;refine ⟨⟨by simp,by simp⟩,?_,?_⟩
 ·intro p hp;simp at hp;rcases hp with rfl|rfl|rfl|rfl|rfl|rfl|rfl|rfl|rfl|rfl<;>intro h<;>simp at h
 (have fa:=(And.intro @AA.eq_1 @AF.eq_1);first|exact AK|(refine zE ?_;try clear fa))
 refine AG _ _ _ ?_;clear AH AJ AG Jo JU JC;have hp:=ND s 15 ⟨bag,false,[],[],0,0⟩;rw [hN] at hp;have h3:(3:Nat) ^ 15=14348907:=by decide
 have hr:=MB s hn;have hbg:Bg bag.length bag:=⟨rfl,fun i=>(hb i).1⟩;have key:∀S:List (List Gp),S.Perm N→(S.Pairwise fun a b=>BL a b≤0)→S=Eg (AT s) 20 bag:=fun S h1 h2=>by
  rw [←O2 hr hbg (show bag.sum<((15:Nat):Int) by omega) (show bag.sum<((20:Nat):Int) by omega)];refine Wj hr hbg (by omega) ?_ h2;rw [←hN] at h1;exact h1
 cases N with
 | nil =>
  have CS:=OI go;(repeat' first|refine zJ (tg [700]) CS ?_|refine zQ ?_|refine zN ?_;intro K hC hK|refine zM ?_;try clear hK hC K|refine zC ?_ ?_<;>intro hb|refine zK ?_;intro Jo JU JC AH AJ AG)
  have e:=key [] (List.Perm.refl _) List.Pairwise.nil;rw [←e];refine Aa [] ?_ ?_<;>(first|exact AK|refine zE ?_);rfl
 | cons l0 N' =>
  have hN2:(l0::N').length≤1000000000:=by omega
  have hx:∀x∈l0::N',x.length≤1000000:=fun x hx=>by
   rw [←hN] at hx;obtain ⟨r,hr1,rfl⟩:=List.mem_map.1 hx;have:=NT _ _ _ _ _ r hr1;rw [(BV _).length_eq];simp at this ⊢;omega
  have CE:Hn Tryz.prog 161 [.rsl 0 go 0 (l0::N').length, .clo 162 []] [(0, .arr go 1 ((l0::N').map (AX false)))] (fun _:List (List Gp)=> .v (.tuple #[])) (fun l' =>[(0, .arr go 1 (l'.map (AX false)))]) (fun l' =>l'.Perm (l0::N')∧l'.Pairwise fun a b=>BL a b≤0) :=
   EE (Ox false go (l0::N') (by simp) hN2 hx) (by rintro x hl ⟨rfl,l',h1,h2,rfl⟩;exact ⟨l',⟨h1,h2⟩,rfl,rfl⟩)
  obtain ⟨L,hL⟩:∃L,l0::N' =L:=⟨_,rfl⟩;rw [hL] at CE key ⊢;(repeat' first|refine zQ ?_|refine zN ?_;intro K hC hK|refine zM ?_;try clear hK hC K|refine zC ?_ ?_<;>intro hb|refine zK ?_;intro Jo JU JC AH AJ AG)
  (refine zX (tg [700]) (CE) ?_;clear AH AJ AG Jo JU JC);intro xr hxr;have e:=key xr hxr.1 hxr.2;have hl:=hxr.1.length_eq;have hT:xr.take L.length=xr:=by rw [←hl,List.take_length]
  have hT2:L.length≤xr.length:=by omega
  (repeat' first|refine zQ ?_|refine zN ?_;intro K hC hK|refine zM ?_;try clear hK hC K|refine zC ?_ ?_<;>intro hb|refine zK ?_;intro Jo JU JC AH AJ AG)
  rw [←e];refine Aa [] ?_ ?_<;>(have fa:=(And.intro hT hT2);first|exact AK|(refine zE ?_;try clear fa))
end Go.Proofs.YthblfhgofopcaaaGreat
