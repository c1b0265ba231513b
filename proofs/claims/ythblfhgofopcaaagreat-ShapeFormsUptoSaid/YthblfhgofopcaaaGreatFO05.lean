/-
  Parts of the proof: SplqF.
-/
import Derived.Test.YthblfhgofopcaaaGreatSH13
import Derived.Test.YthblfhgofopcaaaGreatSH14
import Derived.Test.YthblfhgofopcaaaGreatFO03
set_option linter.all false
namespace Go.Proofs.YthblfhgofopcaaaGreat
open Go.RowKit
set_option maxRecDepth 100000
set_option maxHeartbeats 2000000
def QQ (s:AL) (k:Nat) (x:Sx) (out new:List (List Gp)):Prop:=Bb Tryz.prog 158 [I k, .ref 1 0 0 0, .ref 2 0 0 0, .ref 3 0 0 0, .ref 4 0 0 0, .ref 5 0 0 0, .ref 6 0 0 0, .ref 0 0 0 0] [(0, .arr 0 9 [AO s]),(1, .arr 0 1 [.rsl 7 1 0 x.left.length]),(2, .arr 0 1 [B x.pd]),(3, .arr 0 1 [.rsl 9 x.go 0 out.length]),(4, .arr 0 1 [.rsl 8 x.gs 0 x.so.length]),(5, .arr 0 1 [AA]),(6, .arr 0 1 [AF]),(7, .arr 1 1 (x.left.map I)),(8, .arr x.gs 3 ((x.so++x.junk).map AZ)),(9, .arr x.go 1 (out.map (AX false)))]
 fun v hl=>v= .tup []∧∃(junk:List Gp) (gs go:Nat),hl=[(0, .arr 0 9 [AO s]),(1, .arr 0 1 [.rsl 7 1 0 x.left.length]),(2, .arr 0 1 [B x.pd]),(3, .arr 0 1 [.rsl 9 go 0 (out.length+new.length)]),(4, .arr 0 1 [.rsl 8 gs 0 x.so.length]),(5, .arr 0 1 [AA]),(6, .arr 0 1 [AF]),(7, .arr 1 1 (x.left.map I)),(8, .arr gs 3 ((x.so++junk).map AZ)),(9, .arr go 1 ((out++new).map (AX false)))]
def nL (s:AL) (k:Nat) (x:Sx) (out new:List (List Gp)):Prop:=Bb Tryz.prog 160 [.ref 5 0 0 0, .ref 10 0 0 0] [(0, .arr 0 9 [AO s]),(1, .arr 0 1 [.rsl 7 1 0 x.left.length]),(2, .arr 0 1 [B x.pd]),(3, .arr 0 1 [.rsl 9 x.go 0 out.length]),(4, .arr 0 1 [.rsl 8 x.gs 0 x.so.length]),(5, .arr 0 1 [AA]),(6, .arr 0 1 [AF]),(7, .arr 1 1 (x.left.map I)),(8, .arr x.gs 3 ((x.so++x.junk).map AZ)),(9, .arr x.go 1 (out.map (AX false))),(10, .arr 0 1 [I k])]
 fun v hl=>v= .tup []∧∃(junk:List Gp) (gs go:Nat),hl=[(0, .arr 0 9 [AO s]),(1, .arr 0 1 [.rsl 7 1 0 x.left.length]),(2, .arr 0 1 [B x.pd]),(3, .arr 0 1 [.rsl 9 go 0 (out.length+new.length)]),(4, .arr 0 1 [.rsl 8 gs 0 x.so.length]),(5, .arr 0 1 [AA]),(6, .arr 0 1 [AF]),(7, .arr 1 1 (x.left.map I)),(8, .arr gs 3 ((x.so++junk).map AZ)),(9, .arr go 1 ((out++new).map (AX false))),(10, .arr 0 1 [I k])]
def Up (s:AL) (k:Nat) (g:Gp) (x:Sx) (out new:List (List Gp)):Prop:=Bb Tryz.prog 157 [AZ g,Ae, .ref 0 0 0 0, .ref 1 0 0 0, .ref 4 0 0 0] [(0, .arr 0 9 [AO s]),(1, .arr 0 1 [.rsl 7 1 0 x.left.length]),(2, .arr 0 1 [B x.pd]),(3, .arr 0 1 [.rsl 9 x.go 0 out.length]),(4, .arr 0 1 [.rsl 8 x.gs 0 x.so.length]),(5, .arr 0 1 [AA]),(6, .arr 0 1 [AF]),(7, .arr 1 1 (x.left.map I)),(8, .arr x.gs 3 ((x.so++x.junk).map AZ)),(9, .arr x.go 1 (out.map (AX false))),(10, .arr 0 1 [I k])]
 fun v hl=>v= .tup []∧∃(junk:List Gp) (gs go:Nat),hl=[(0, .arr 0 9 [AO s]),(1, .arr 0 1 [.rsl 7 1 0 x.left.length]),(2, .arr 0 1 [B x.pd]),(3, .arr 0 1 [.rsl 9 go 0 (out.length+new.length)]),(4, .arr 0 1 [.rsl 8 gs 0 x.so.length]),(5, .arr 0 1 [AA]),(6, .arr 0 1 [AF]),(7, .arr 1 1 (x.left.map I)),(8, .arr gs 3 ((x.so++junk).map AZ)),(9, .arr go 1 ((out++new).map (AX false))),(10, .arr 0 1 [I k])]
set_option maxHeartbeats 2000000 in
theorem uF (s:AL) (k:Nat) (x:Sx) (out new:List (List Gp)) (h:QQ s k x out new):nL s k x out new:=by
 unfold nL;unfold QQ at h;refine FL 11 Tryz.ntmps160 ?_;let tb:=L5;let lv:=J6;(have fa:= @AA.eq_1;(repeat' first|refine zQ ?_|refine zN ?_;intro K hC hK|refine zM ?_;try clear hK hC K|refine zC ?_ ?_<;>intro hb|refine zK ?_;intro Jo JU JC AH AJ AG)<;>(try clear fa))
 with_reducible apply Ap.obj [0,1,2,3,4,5,6,7,8,9] h
 ·(have fa:= @AA.eq_1;first|exact AK|(refine zE ?_;try clear fa))
 ·(have fa:=(And.intro @AA.eq_1 @AF.eq_1);first|exact AK|(refine zE ?_;try clear fa))
 ·decide
 ·intro r hr;simp at hr;rcases hr with rfl|rfl|rfl|rfl|rfl|rfl|rfl|rfl|rfl|rfl<;>exact ⟨_,_,_,rfl⟩
 ·refine ⟨by (have fa:= @AA.eq_1;first|exact AK|(refine zE ?_;try clear fa)),?_⟩;intro r hr g sz es he;simp at hr;rcases hr with rfl|rfl|rfl|rfl|rfl|rfl|rfl|rfl|rfl|rfl;all_goals
   injection he with h1 h2 h3
   subst h1 h2 h3;first|rfl|((have fa:=(And.intro @AA.eq_1 @AF.eq_1);first|exact AK|(refine zE ?_;try clear fa));done)|((have fa:=(And.intro @AA.eq_1 @AF.eq_1);first|exact AK|(refine zE ?_;try clear fa));rfl)
 ·rintro v hl ⟨rfl,junk,gs,go,rfl⟩;refine ⟨?_,?_,?_⟩
  ·exact ⟨by simp,by simp⟩
  ·intro p hp;simp at hp;rcases hp with rfl|rfl|rfl|rfl|rfl|rfl|rfl|rfl|rfl|rfl<;>intro h<;>simp at h
  ·(have fa:=(And.intro @AA.eq_1 @AF.eq_1);first|exact AK|(refine zE ?_;try clear fa))
   refine AG _ _ _ ?_;clear AH AJ AG Jo JU JC;(repeat' first|refine zQ ?_|refine zN ?_;intro K hC hK|refine zM ?_;try clear hK hC K|refine zC ?_ ?_<;>intro hb|refine zK ?_;intro Jo JU JC AH AJ AG)
   refine Kh [(0,0),(1,1),(2,2),(3,3),(4,4),(5,5),(6,6),(7,7),(8,8),(9,9),(10,10)] ?_ ?_<;>(first|exact AK|refine zE ?_);refine ⟨junk,gs,go,?_⟩;first|rfl|((have fa:=(And.intro @AA.eq_1 @AF.eq_1);first|exact AK|(refine zE ?_;try clear fa));done)|((have fa:=(And.intro @AA.eq_1 @AF.eq_1);first|exact AK|(refine zE ?_;try clear fa));rfl)
set_option maxHeartbeats 4000000 in
theorem kG (s:AL) (k:Nat) (g:Gp) (x:Sx) (out new:List (List Gp)) (hv:AP s=0) (hg:Ak s g.wh g.kd=0) (hk:D8 x.left.length (AI g.wh g.kd)) (hX:∀i,-1000≤x.left.getD i 0∧x.left.getD i 0≤1000) (hl:x.left.length≤1000000) (hso:x.so.length≤1000000)
  (h:∀gs,nL s k ⟨Ah x.left (AI g.wh g.kd),x.pd,x.so++[g],[],gs,x.go⟩ out new):Up s k g x out new:=by
 have CT:=Ep s g;have et:BT s g.wh g.kd=AI g.wh g.kd:=by unfold BT;rw [if_pos ⟨hv,hg⟩]
 rw [et] at CT;have hks:=Bt g.wh g.kd;obtain ⟨ks,hke⟩:∃ks,AI g.wh g.kd=ks:=⟨_,rfl⟩;rw [hke] at CT hk hks h;clear et hke hg;unfold Up Ae;refine FL 11 Tryz.ntmps157 ?_;let tb:=Lx;let lv:=KE;(repeat' first|refine zS CT ?_|refine zQ ?_|refine zN ?_;intro K hC hK|refine zM ?_;try clear hK hC K|refine zC ?_ ?_<;>intro hb|refine zK ?_;intro Jo JU JC AH AJ AG)
 refine Ab ks.length (fun j σ=>σ=⟨900,[(1, .clo 160 [.ref 5 0 0 0, .ref 10 0 0 0]),(3, .ref 1 0 0 0),(4, .ref 4 0 0 0),(5, .ref 12 0 0 0),(7,AN true ks),(15,AN true ks),(16,I ks.length),(17,I j)],[(0, .arr 0 9 [AO s]),(1, .arr 0 1 [.rsl 7 1 0 x.left.length]),(2, .arr 0 1 [B x.pd]),(3, .arr 0 1 [.rsl 9 x.go 0 out.length]),(4, .arr 0 1 [.rsl 8 x.gs 0 x.so.length]),(5, .arr 0 1 [AA]),(6, .arr 0 1 [AF]),(7, .arr 1 1 ((Ah x.left (ks.take j)).map I)),(8, .arr x.gs 3 ((x.so++x.junk).map AZ)),(9, .arr x.go 1 (out.map (AX false))),(10, .arr 0 1 [I k]),(12, .arr 0 3 [AZ g])]⟩) [(0,0),(1,1),(2,2),(3,3),(4,4),(5,5),(6,6),(7,7),(8,8),(9,9),(10,10),(64,12)] [(0,0),(1,1),(2,2),(3,3),(4,4),(5,5),(6,6),(7,7),(8,8),(9,9),(10,10),(12,12)] 0 [1,3,4,5,7,15,16,17] 900 zg zg (by (have fa:=(And.intro @AA.eq_1 (And.intro @AF.eq_1 (And.intro @Ah.eq_1 (And.intro @List.take_zero.{0} @List.foldl_nil.{0,0}))));exact zV)) ?_;rintro j σ' hj rfl J hcJ hJ;by_cases hlt:j<ks.length
 ·obtain ⟨z,hz⟩:∃z,ks[j]=z:=⟨_,rfl⟩;have hin:=hk z (by rw [←hz];exact List.getElem_mem hlt);have ht:=Gs x.left ks hlt;have hXl:=Bn (ks.take j) x.left;have hXb:∀i,-1000000000≤(Ah x.left (ks.take j)).getD i 0∧(Ah x.left (ks.take j)).getD i 0≤1000000000:=fun i=>by
   rw [BF _ _ (fun y hy=>hk y (List.mem_of_mem_take hy))];have h1:=Cu (ks.take j) i;have h2:=Ai (ks.take j) i;have h3:=hX i;simp at h1;omega
  obtain ⟨X,hXe⟩:∃X,Ah x.left (ks.take j)=X:=⟨_,rfl⟩;rw [hXe,hz] at ht;rw [hXe] at hXl hXb;obtain ⟨d1,d2,d3⟩:=RA (X:=X) hin.1 (by omega) hXb;obtain ⟨Y,hY⟩:∃Y,DY X z=Y:=⟨_,rfl⟩;rw [hY] at ht d3;rw [hXe] at *;(have fa:=(And.intro hz (And.intro d2 d3));(repeat' first|refine zQ ?_|refine zN ?_;intro K hC hK|refine zM ?_;try clear hK hC K|refine zC ?_ ?_<;>intro hb|refine zK ?_;intro Jo JU JC AH AJ AG)<;>(try clear fa))
  exact hJ _ hlt (by (have fa:=(And.intro @AA.eq_1 (And.intro @AF.eq_1 ht));exact zV))
 ·obtain rfl:j=ks.length:=by omega
  rw [List.take_length];have BP:=ME hk;have hXl:=Bn ks x.left;have h:=h;obtain ⟨X,hXe⟩:∃X,Ah x.left ks=X:=⟨_,rfl⟩;have hXb0:∀i,-1004≤X.getD i 0∧X.getD i 0≤1004:=fun i=>by
   rw [←hXe,BF _ _ hk];have h1:=Cu ks i;have h2:=Ai ks i;have h3:=hX i;omega
  rw [hXe] at BP hXl h ⊢;have h1:(x.so++x.junk).take x.so.length=x.so:=by simp
  have h2:x.so.length≤(x.so++x.junk).length:=by simp
  unfold nL at h;simp only [List.append_nil,hXl,List.length_append,List.length_singleton] at h;(have fa:=h1;(repeat' first|refine zQ ?_|refine zN ?_;intro K hC hK|refine zM ?_;try clear hK hC K|refine zC ?_ ?_<;>intro hb|refine zK ?_;intro Jo JU JC AH AJ AG)<;>(try clear fa))
  with_reducible apply Ap.obj [0,1,2,3,4,5,6,7,8,9,10] (h (x.gs+1))
  ·(have fa:=(And.intro @AA.eq_1 @AF.eq_1);first|exact AK|(refine zE ?_;try clear fa))
  ·(have fa:=(And.intro @AA.eq_1 @AF.eq_1);first|exact AK|(refine zE ?_;try clear fa))
  ·decide
  ·intro r hr;simp at hr;rcases hr with rfl|rfl|rfl|rfl|rfl|rfl|rfl|rfl|rfl|rfl|rfl<;>exact ⟨_,_,_,rfl⟩
  ·refine ⟨by (have fa:= @AA.eq_1;first|exact AK|(refine zE ?_;try clear fa)),?_⟩;intro r hr g sz es he;simp at hr;rcases hr with rfl|rfl|rfl|rfl|rfl|rfl|rfl|rfl|rfl|rfl|rfl;all_goals
    injection he with h1 h2 h3
    subst h1 h2 h3;first|rfl|((have fa:=(And.intro @AA.eq_1 @AF.eq_1);first|exact AK|(refine zE ?_;try clear fa));done)|((have fa:=(And.intro @AA.eq_1 @AF.eq_1);first|exact AK|(refine zE ?_;try clear fa));rfl)
  ·rintro v hl ⟨rfl,junk,gs,go,rfl⟩;refine ⟨?_,?_,?_⟩
   ·exact ⟨by simp,by simp⟩
   ·intro p hp;simp at hp;rcases hp with rfl|rfl|rfl|rfl|rfl|rfl|rfl|rfl|rfl|rfl|rfl<;>intro h<;>simp at h
   ·(have fa:=(And.intro @AA.eq_1 @AF.eq_1);first|exact AK|(refine zE ?_;try clear fa))
    refine AG _ _ _ ?_;clear AH AJ AG Jo JU JC hJ hcJ J;have e9:∀q:List Gp,x.so++[g]++q=x.so++(g::q):=fun q=>by simp
    have e10:((((x.so.length+1:Nat):Int)-1-0).toNat)=x.so.length:=by omega
    rw [e9];(have fa:=e10;(repeat' first|refine zQ ?_|refine zN ?_;intro K hC hK|refine zM ?_;try clear hK hC K|refine zC ?_ ?_<;>intro hb|refine zK ?_;intro Jo JU JC AH AJ AG)<;>(try clear fa))
    refine Ab ks.length (fun j σ=>σ=⟨1900,[(3, .ref 1 0 0 0),(39,AN true ks),(40,I ks.length),(41,I j)],[(0, .arr 0 9 [AO s]),(1, .arr 0 1 [.rsl 7 1 0 x.left.length]),(2, .arr 0 1 [B x.pd]),(3, .arr 0 1 [.rsl 9 go 0 (out.length+new.length)]),(4, .arr 0 1 [.rsl 8 gs 0 x.so.length]),(5, .arr 0 1 [AA]),(6, .arr 0 1 [AF]),(7, .arr 1 1 ((A5 X (ks.take j)).map I)),(8, .arr gs 3 ((x.so++(g::junk)).map AZ)),(9, .arr go 1 ((out++new).map (AX false))),(10, .arr 0 1 [I k]),(12, .arr 0 3 [AZ g])]⟩) [(0,0),(1,1),(2,2),(3,3),(4,4),(5,5),(6,6),(7,7),(8,8),(9,9),(10,10),(12,12)] [(0,0),(1,1),(2,2),(3,3),(4,4),(5,5),(6,6),(7,7),(8,8),(9,9),(10,10),(12,12)] 0 [3,39,40,41] 1900 zg zg (by (have fa:=(And.intro @AA.eq_1 (And.intro @AF.eq_1 (And.intro @A5.eq_1 (And.intro @List.take_zero.{0} @List.foldl_nil.{0,0}))));exact zV)) ?_;rintro j σ' hj rfl J hcJ hJ;by_cases hlt:j<ks.length
    ·obtain ⟨z,hz⟩:∃z,ks[j]=z:=⟨_,rfl⟩;have hk' :D8 X.length ks:=by rw [hXl];exact hk
     have hin:=hk' z (by rw [←hz];exact List.getElem_mem hlt);have ht:=D4 X ks hlt;have hYl:=Bp (ks.take j) X;have hYb:∀i,-1000000000≤(A5 X (ks.take j)).getD i 0∧(A5 X (ks.take j)).getD i 0≤1000000000:=fun i=>by
      rw [CY _ _ (fun y hy=>hk' y (List.mem_of_mem_take hy))];have h1:=Cu (ks.take j) i;have h2:=Ai (ks.take j) i;have h3:=hXb0 i;simp at h1;omega
     obtain ⟨Y,hYe⟩:∃Y,A5 X (ks.take j)=Y:=⟨_,rfl⟩;rw [hYe,hz] at ht;rw [hYe] at hYl hYb;have A:=I3 (X:=Y) (z:=z) hin.1 (by omega) hYb;have a1:=A.lt;have a2:=A.up;have a3:=A.st;rw [hYe] at *;(have fa:=(And.intro hz (And.intro a2 a3));(repeat' first|refine zQ ?_|refine zN ?_;intro K hC hK|refine zM ?_;try clear hK hC K|refine zC ?_ ?_<;>intro hb|refine zK ?_;intro Jo JU JC AH AJ AG)<;>(try clear fa))
     exact hJ _ hlt (by (have fa:=(And.intro @AA.eq_1 (And.intro @AF.eq_1 ht));exact zV))
    ·obtain rfl:j=ks.length:=by omega
     rw [List.take_length,BP];(repeat' first|refine zQ ?_|refine zN ?_;intro K hC hK|refine zM ?_;try clear hK hC K|refine zC ?_ ?_<;>intro hb|refine zK ?_;intro Jo JU JC AH AJ AG)
     refine Kh [(0,0),(1,1),(2,2),(3,3),(4,4),(5,5),(6,6),(7,7),(8,8),(9,9),(10,10)] ?_ ?_<;>(first|exact AK|refine zE ?_);exact ⟨g::junk,gs,go,by first|rfl|((have fa:=(And.intro @AA.eq_1 @AF.eq_1);first|exact AK|(refine zE ?_;try clear fa));done)|((have fa:=(And.intro @AA.eq_1 @AF.eq_1);first|exact AK|(refine zE ?_;try clear fa));rfl)⟩
end Go.Proofs.YthblfhgofopcaaaGreat
