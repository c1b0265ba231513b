/-
  Parts of the proof: SplY, SrcV, LitN, BigT, LitV.
-/
import Derived.Test.YthblfhgofopcaaaGreatSH13
import Derived.Test.YthblfhgofopcaaaGreatSH14
import Derived.Test.YthblfhgofopcaaaGreatFO06
import Derived.Test.YthblfhgofopcaaaGreatFO09
import Derived.Test.YthblfhgofopcaaaGreatSH17
import Derived.Test.YthblfhgofopcaaaGreatSH15
import Derived.Test.YthblfhgofopcaaaGreatSH21
import Derived.Test.YthblfhgofopcaaaGreatSH22
set_option linter.all false
namespace Go.Proofs.YthblfhgofopcaaaGreat
open Go.RowKit
set_option maxRecDepth 100000
set_option maxHeartbeats 2000000
abbrev U (x:Int):AV:= .v (.int .u64 x)
def Af (x:Int):Hl:=[(0, .arr 0 1 [U x])]
def AR (x:Int):Int:=IntKind.u64.wrap (IntKind.u64.wrap (x*15074714826142052245)+7146057691288625177)
def Sc (x:Int):Int:=(IntKind.u64.wrap ((BitVec.ofInt IntKind.u64.bits x ^^^ BitVec.ofInt IntKind.u64.bits (x.fdiv (2 ^ min 31 IntKind.u64.bits))).toNat)).fdiv (2 ^ min 20 IntKind.u64.bits)
def BC (x n:Int):Int:=if n<1 then 0 else IntKind.i64.wrap ((Sc (AR x)).tmod (IntKind.u64.wrap n))
theorem Xr {n:Int} (h0:0≤n) (h1:n<18446744073709551616):IntKind.u64.wrap n=n:=by unfold IntKind.wrap;simp [IntKind.signed,IntKind.bits];omega
theorem eI (n:Int):0≤IntKind.u64.wrap n:=by unfold IntKind.wrap;simp [IntKind.signed,IntKind.bits];omega
theorem QW (x:Int):0≤Sc x:=by
 unfold Sc;have h1:=eI ((BitVec.ofInt IntKind.u64.bits x ^^^ BitVec.ofInt IntKind.u64.bits (x.fdiv (2 ^ min 31 IntKind.u64.bits))).toNat);exact Int.fdiv_nonneg h1 (by decide)
theorem Av {x n:Int} (h1:1≤n) (h2:n≤9223372036854775807):0≤BC x n∧BC x n<n:=by
 unfold BC;rw [if_neg (by omega),Xr (by omega) (by omega)];have h0:=QW (AR x);have h3:(Sc (AR x)).tmod n=Sc (AR x) % n:=Int.tmod_eq_emod_of_nonneg h0;have h4:=Int.emod_nonneg (Sc (AR x)) (show n≠0 by omega);have h5:=Int.emod_lt_of_pos (Sc (AR x)) (show 0<n by omega);rw [h3,Al (by omega) (by omega)];exact ⟨h4,h5⟩
theorem BI (x n:Int) (hn:n≤9223372036854775807):D3 Tryz.prog 50 [.ref 0 0 0 0,I n] (Af x) (I (BC x n)) (Af (AR x)):=by
 unfold D3 Af;by_cases h1:n<1
 ·refine FL 1 Tryz.ntmps50 ?_;let tb:=Vv;let lv:=UW;(repeat' first|refine zQ ?_|refine zN ?_;intro K hC hK|refine zM ?_;try clear hK hC K|refine zC ?_ ?_<;>intro hb|refine zK ?_;intro Jo JU JC AH AJ AG)
  refine Aa [(0,0)] ?_ ?_<;>(first|exact AK|refine zE ?_);refine ⟨?_,rfl⟩;unfold BC;rw [if_pos h1]
 ·have hw:IntKind.u64.wrap n=n:=Xr (by omega) (by omega);have hne:(n≠0)=True:=by simp;omega
  refine FL 1 Tryz.ntmps50 ?_;let tb:=Vv;let lv:=UW;(have fa:=(And.intro hw hne);(repeat' first|refine zQ ?_|refine zN ?_;intro K hC hK|refine zM ?_;try clear hK hC K|refine zC ?_ ?_<;>intro hb|refine zK ?_;intro Jo JU JC AH AJ AG)<;>(try clear fa))
  refine Aa [(0,0)] ?_ ?_<;>(first|exact AK|refine zE ?_);refine ⟨?_,rfl⟩;unfold BC;rw [if_neg h1,hw];rfl
theorem Dt (x n:Int) (hn:n≤9223372036854775807):D3 Tryz.prog 82 [.ref 0 0 0 0,I n] (Af x) (B (BC x n==0)) (Af (AR x)):=by
 have CB:=BI x n hn;unfold Af at CB;unfold D3 Af;refine FL 1 Tryz.ntmps82 ?_;let tb:=fG;let lv:=ZR;(repeat' first|refine zJ (tg [0]) CB ?_|refine zQ ?_|refine zN ?_;intro K hC hK|refine zM ?_;try clear hK hC K|refine zC ?_ ?_<;>intro hb|refine zK ?_;intro Jo JU JC AH AJ AG)
 refine Aa [(0,0)] ?_ ?_<;>(first|exact AK|refine zE ?_)
theorem EC (x lo hi:Int) (h0: -1000000000≤lo) (h1:lo≤hi) (h2:hi≤1000000000):D3 Tryz.prog 84 [.ref 0 0 0 0,I lo,I hi] (Af x) (I (lo+BC x (hi-lo+1))) (Af (AR x)):=by
 have hr:=Av (x:=x) (n:=hi-lo+1) (by omega) (by omega);have CB:=BI x (hi-lo+1) (by omega);unfold Af at CB;unfold D3 Af;refine FL 1 Tryz.ntmps84 ?_;let tb:=f9;let lv:=aM;(repeat' first|refine zJ (tg [0]) CB ?_|refine zQ ?_|refine zN ?_;intro K hC hK|refine zM ?_;try clear hK hC K|refine zC ?_ ?_<;>intro hb|refine zK ?_;intro Jo JU JC AH AJ AG)
 refine Aa [(0,0)] ?_ ?_<;>(first|exact AK|refine zE ?_)
end Go.Proofs.YthblfhgofopcaaaGreat

namespace Go.Proofs.YthblfhgofopcaaaGreat
theorem Qh {many p k:Int} {l:List Int} (h:Bl many p l=0) (hl:∀z∈l,z<k) (hp:p<k) (h0:0≤k) (h1:k<many):Bl many p (l++[k])=0:=by
 induction l generalizing p with
 | nil =>
  show (if k<0∨many≤k then (2:Int) else if k≤p then 11 else Bl many k [])=0;rw [if_neg (by omega),if_neg (by omega)];rfl
 | cons x l ih =>
  obtain ⟨a,b,c⟩:=Qz h;show (if x<0∨many≤x then (2:Int) else if x≤p then 11 else Bl many x (l++[k]))=0;rw [if_neg (by omega),if_neg (by omega)];exact ih c (fun z hz=>hl z (by simp [hz])) (hl x (by simp))
structure P6 (s:AL) (m:Int):Prop where
 pl:s.pl=3
 su:∀z∈s.su,3≤z∧z≤5
 su2:s.su.length≤2
 wi:0≤s.wi∧s.wi≤4
 dr:0≤s.dr∧s.dr≤3
 fl:0≤s.fl∧s.fl≤1
 co:2≤s.co∧s.co≤4
 me:s.me=m
 de:0≤s.de∧s.de≤2
theorem P6.ok {s:AL} {m:Int} (h:P6 s m) (hm:1≤m∧m≤3) (h1:1≤s.su.length) (hr:Bl (AQ s) (-1) s.re=0) (hf:¬AQ s*s.co+s.fl<3*(3*m+1)+1+s.de):AP s=0:=by
 have hs:=Ek (l:=s.su) fun z hz=>by have:=h.su z hz;omega
 have hp:AQ s=s.wi+s.dr+Aj s.su:=rfl;have a:=h.pl;have b:=h.me;have c:=h.wi;have d:=h.dr;have e:=h.fl;have f:=h.co;have g:=h.de;have hR:GD s=false:=by
  unfold GD;simp;omega
 unfold AP;rw [if_neg (by omega),if_neg (by have:=h.su2;omega),if_neg,hR,if_neg (by simp),if_neg (by omega),if_neg (by simpa using hr),if_neg]
 ·rw [a,b];omega
 ·intro hb;obtain ⟨z,hz,hb⟩:=List.any_eq_true.1 hb;have:=h.su z hz;unfold HD at hb;simp at hb;omega
structure Jn (s:AL):Prop where
 ok:AP s=0
 fl:s.fl≤1
end Go.Proofs.YthblfhgofopcaaaGreat

namespace Go.Proofs.YthblfhgofopcaaaGreat
open Go.RowKit
def eO:AL:=⟨4,[9,9,9],4,3,0,4,4,14,[4,13,22]⟩
def Eh:AL:=⟨3,[3],0,1,0,4,1,2,[1]⟩
set_option maxRecDepth 100000
set_option maxHeartbeats 2000000
theorem FE (zs:List Int) (hz:zs.length≤1000000):AM Tryz.prog 97 [AN false zs] (I (JM zs)):=by
 refine zb Tryz.ntmps97 ?_;let tb:=iG;let lv:=ZQ;(repeat' first|refine zQ ?_|refine zN ?_;intro K hC hK|refine zM ?_;try clear hK hC K|refine zC ?_ ?_<;>intro hb|refine zK ?_;intro Jo JU JC AH AJ AG)
 refine Ab zs.length (fun k σ=>σ=⟨900,[(0,AN false zs),(3,I (JM (zs.take k))),(4,I k)],[]⟩) [] [] 0 [0,3,4] 900 zf zf (by exact zV) ?_;rintro k σ' hk rfl J hcJ hJ;by_cases h:k<zs.length
 ·have hs:=KR zs h;(have fa:=hs;(repeat' first|refine zQ ?_|refine zN ?_;intro K hC hK|refine zM ?_;try clear hK hC K|refine zC ?_ ?_<;>intro hb|refine zK ?_;intro Jo JU JC AH AJ AG)<;>(try clear fa))
  exact hJ _ h (by exact zV)
 ·(repeat' first|refine zQ ?_|refine zN ?_;intro K hC hK|refine zM ?_;try clear hK hC K|refine zC ?_ ?_<;>intro hb|refine zK ?_;intro Jo JU JC AH AJ AG)
  refine Aa [] ?_ ?_<;>(first|exact AK|refine zE ?_);obtain rfl:k=zs.length:=by omega
  rw [List.take_length]
def Km (s:AL):Int:=IntKind.i64.wrap (IntKind.i64.wrap (JM s.su+s.wi)+s.dr)
theorem Cm (s:AL) (hz:s.su.length≤1000000):AM Tryz.prog 108 [AO s] (I (Km s)):=by
 have CT:=FE s.su hz;refine zb Tryz.ntmps108 ?_;let tb:=bR;let lv:=Vz;(repeat' first|refine zS CT ?_|refine zQ ?_|refine zN ?_;intro K hC hK|refine zM ?_;try clear hK hC K|refine zC ?_ ?_<;>intro hb|refine zK ?_;intro Jo JU JC AH AJ AG)
 refine Aa [] ?_ ?_<;>(first|exact AK|refine zE ?_);rfl
theorem OP {s:AL} (hz:∀z∈s.su,0≤z∧z≤9) (hl:s.su.length≤20) (hw:0≤s.wi∧s.wi≤9) (hd:0≤s.dr∧s.dr≤9):Km s=AQ s:=by
 have h1:=G6 (m:=9) hz (by omega) (by omega);have h2:=EN (m:=9) hz;have h3:=Gh s.su;unfold Km AQ;rw [h1,h3,Al (n:=s.su.sum+s.wi) (by omega) (by omega),Al (by omega) (by omega)];omega
set_option maxHeartbeats 4000000 in
theorem Qk (x m:Int) (hm:1≤m∧m≤3):Hn Tryz.prog 83 [.ref 0 0 0 0,I m] (Af x) (fun a:AL×Int=>AO a.1) (fun a=>Af a.2) (fun a=>P6 a.1 m∧AP a.1=0):=by
 unfold Hn Af;refine DX ?_;refine FL 1 Tryz.ntmps83 ?_;let tb:=fK;let lv:=bQ;(have fa:= @Af.eq_1;(repeat' first|refine zJ (tg [0]) (EC _ 2 4 (by omega) (by omega) (by omega)) ?_|refine zJ (tg [0]) (BI _ 3 (by omega)) ?_|refine zJ (tg [0]) (BI _ 2 (by omega)) ?_|refine zJ (tg [0]) (EC _ 1 2 (by omega) (by omega) (by omega)) ?_|refine zQ ?_|refine zN ?_;intro K hC hK|refine zM ?_;try clear hK hC K|refine zC ?_ ?_<;>intro hb|refine zK ?_;intro Jo JU JC AH AJ AG)<;>(try clear fa))
 have b1:=Av (x:=x) (n:=3) (by omega) (by omega);have b2:=Av (x:=AR x) (n:=3) (by omega) (by omega);have b3:=Av (x:=AR (AR x)) (n:=3) (by omega) (by omega);have b4:=Av (x:=AR (AR (AR x))) (n:=2) (by omega) (by omega);have b5:=Av (x:=AR (AR (AR (AR x)))) (n:=3) (by omega) (by omega);have b6:=Av (x:=AR (AR (AR (AR (AR x))))) (n:=2) (by omega) (by omega);generalize BC x 3=co at *;generalize BC (AR x) 3=wi at *;generalize BC (AR (AR x)) 3=dr at *;generalize BC (AR (AR (AR x))) 2=fl at *;generalize BC (AR (AR (AR (AR x)))) 3=de at *;generalize BC (AR (AR (AR (AR (AR x))))) 2=n0 at *;generalize AR (AR (AR (AR (AR (AR x)))))=x1 at *;refine A8 (Jf 272 0 9 500 0 1 1 (by rfl) (by rfl) (by rfl)) (α:=Int×Nat×List Int×Int) (fun a=>[(0, .ref 0 0 0 0),(1,I m),(4, .ref 1 0 0 0),(5, .ref 2 0 0 0),(6,I a.1)])
  (fun a=>[(0, .arr 0 1 [U a.2.2.2]),(1, .arr 0 9 [.agg [I 0,Bw,I 0,I 0,I 0,I 0,I 0,I 0,Bw]]),(2, .arr 0 9 [.agg [I 3, .rsl 3 a.2.1 0 a.2.2.1.length,I wi,I dr,I fl,I (2+co),I m,I de,Bw]]),(3, .arr a.2.1 1 (a.2.2.1.map I))])
  (fun a=>a.1.toNat) (fun a=>0≤a.1∧a.1+a.2.2.1.length≤2∧1≤a.1+a.2.2.1.length∧∀z∈a.2.2.1,3≤z∧z≤5) [(0,0),(64,1),(272,2),(500,3)] [(0,0),(1,1),(2,2),(3,3)] 0 [0,1,4,5,6] 900 zg zg (1+n0,0,[],x1) ⟨by dsimp only;omega,by simp;omega,by simp;omega,by simp⟩ (by (have fa:=(And.intro @I1.eq_1 @Bw.eq_1);exact CZ)) ?_
 rintro ⟨i,g,su,x2⟩ ⟨i0,i1,i2,hsu⟩ J hcJ hJ;dsimp only at i0 i1 i2 hsu hJ ⊢;by_cases h:0<i
 ·(have fa:= @Af.eq_1;(repeat' first|refine zJ (tg [0]) (EC _ 3 5 (by omega) (by omega) (by omega)) ?_|refine zQ ?_|refine zN ?_;intro K hC hK|refine zM ?_;try clear hK hC K|refine zC ?_ ?_<;>intro hb|refine zK ?_;intro Jo JU JC AH AJ AG)<;>(try clear fa))
  have b7:=Av (x:=x2) (n:=3) (by omega) (by omega);refine hJ _ (i-1,g+1,su++[3+BC x2 3],AR x2) (by dsimp only;omega) ⟨by dsimp only;omega,by simp;omega,by simp;omega,fun z hz=> ?_⟩ (by (have fa:= @List.length_append.{0};exact CZ));rcases List.mem_append.1 hz with hz|hz
  ·exact hsu z hz
  ·simp at hz;omega
 ·(repeat' first|refine zQ ?_|refine zN ?_;intro K hC hK|refine zM ?_;try clear hK hC K|refine zC ?_ ?_<;>intro hb|refine zK ?_;intro Jo JU JC AH AJ AG)
  have hsl:1≤su.length∧su.length≤2:=by omega
  clear h i0 i1 i2;have hs1:=EN (zs:=su) (m:=5) fun z hz=>by have:=hsu z hz;omega
  have hs3:3≤su.sum:=by
   cases su with
   | nil=>simp at hsl
   | cons a l =>
    have h1:=hsu a (by simp);have h2:=EN (zs:=l) (m:=5) fun z hz=>by have:=hsu z (by simp [hz]);omega
    simp;omega
  have hP:∀co wi dr re,0≤wi∧wi≤4→0≤dr∧dr≤3→Km ⟨3,su,wi,dr,fl,co,m,de,re⟩=wi+dr+su.sum:=fun co wi dr re h1 h2=>by
   rw [OP (fun z hz=>by have:=hsu z hz;omega) (by dsimp only;omega) (by dsimp only;omega) (by dsimp only;omega)];unfold AQ;rw [Gh]
  refine A8 (Jf 2 0 9 500 0 1 8 (by rfl) (by rfl) (by rfl)) (α:=Int×Int×Int) (fun a=>[(0, .ref 0 0 0 0),(4, .ref 1 0 0 0),(5, .ref 2 0 0 0),(7,I (3*(3*m+1)+1+de))])
   (fun a=>[(0, .arr 0 1 [U x2]),(1, .arr 0 9 [.agg [I 0,Bw,I 0,I 0,I 0,I 0,I 0,I 0,Bw]]),(2, .arr 0 9 [.agg [I 3, .rsl 3 g 0 su.length,I a.2.1,I a.2.2,I fl,I a.1,I m,I de, .rsl 4 0 0 0]]),(3, .arr g 1 (su.map I)),(4, .arr 0 1 [])])
   (fun a=>(4-a.1).toNat+(4-a.2.1).toNat+(3-a.2.2).toNat) (fun a=>(2≤a.1∧a.1≤4)∧(0≤a.2.1∧a.2.1≤4)∧(0≤a.2.2∧a.2.2≤3)) [(0,0),(1,1),(2,2),(3,3),(500,4)] [(0,0),(1,1),(2,2),(3,3),(4,4)] 0 [0,4,5,7] 900 zg zg (2+co,wi,dr) ⟨by dsimp only;omega,by dsimp only;omega,by dsimp only;omega⟩ (by (have fa:=(And.intro @I1.eq_1 @Bw.eq_1);exact CZ)) ?_
  clear hJ hcJ J b1 b2 b3 co wi dr;rintro ⟨co,wi,dr⟩ ⟨b1,b2,b3⟩ J hcJ hJ;dsimp only at b1 b2 b3 hJ ⊢;have CP:=Cm ⟨3,su,wi,dr,fl,co,m,de,[]⟩ (by dsimp only;omega);rw [hP co wi dr [] b2 b3] at CP;obtain ⟨P,hPe⟩:∃P,wi+dr+su.sum=P:=⟨_,rfl⟩;rw [hPe] at CP;have hPc:0≤P*co∧P*co≤100:=by
   rcases (show co=2∨co=3∨co=4 by omega) with h|h|h<;>rw [h]<;>omega
  have hP4:co=4→P*co=4*P:=fun h=>by rw [h];omega
  by_cases h:P*co+fl<3*(3*m+1)+1+de
  ·by_cases h1:co<4
   ·(have fa:= @AO.eq_1;(repeat' first|refine zS CP ?_|refine zQ ?_|refine zN ?_;intro K hC hK|refine zM ?_;try clear hK hC K|refine zC ?_ ?_<;>intro hb|refine zK ?_;intro Jo JU JC AH AJ AG)<;>(try clear fa))
    refine hJ _ (co+1,wi,dr) (by dsimp only;omega) ⟨by dsimp only;omega,b2,b3⟩ (by exact CZ)
   ·by_cases h2:wi<4
    ·(have fa:= @AO.eq_1;(repeat' first|refine zS CP ?_|refine zQ ?_|refine zN ?_;intro K hC hK|refine zM ?_;try clear hK hC K|refine zC ?_ ?_<;>intro hb|refine zK ?_;intro Jo JU JC AH AJ AG)<;>(try clear fa))
     refine hJ _ (co,wi+1,dr) (by dsimp only;omega) ⟨b1,by dsimp only;omega,b3⟩ (by exact CZ)
    ·by_cases h3:dr<3
     ·(have fa:= @AO.eq_1;(repeat' first|refine zS CP ?_|refine zQ ?_|refine zN ?_;intro K hC hK|refine zM ?_;try clear hK hC K|refine zC ?_ ?_<;>intro hb|refine zK ?_;intro Jo JU JC AH AJ AG)<;>(try clear fa))
      refine hJ _ (co,wi,dr+1) (by dsimp only;omega) ⟨b1,b2,by dsimp only;omega⟩ (by exact CZ)
     ·exfalso;have:=hP4 (by omega);omega
  ·(have fa:= @AO.eq_1;(repeat' first|refine zS CP ?_|refine zQ ?_|refine zN ?_;intro K hC hK|refine zM ?_;try clear hK hC K|refine zC ?_ ?_<;>intro hb|refine zK ?_;intro Jo JU JC AH AJ AG)<;>(try clear fa))
   clear hJ hcJ J hP4;have hPe' :∀re,Km ⟨3,su,wi,dr,fl,co,m,de,re⟩=P:=fun re=>by rw [hP co wi dr re b2 b3,hPe]
   refine At (α:=Nat×Nat×List Int×Int) (fun a=>[(0, .ref 0 0 0 0),(4, .ref 1 0 0 0),(5, .ref 2 0 0 0),(8,I a.1)])
    (fun a=>[(0, .arr 0 1 [U a.2.2.2]),(1, .arr 0 9 [.agg [I 0,Bw,I 0,I 0,I 0,I 0,I 0,I 0,Bw]]),(2, .arr 0 9 [.agg [I 3, .rsl 3 g 0 su.length,I wi,I dr,I fl,I co,I m,I de, .rsl 4 a.2.1 0 a.2.2.1.length]]),(3, .arr g 1 (su.map I)),(4, .arr a.2.1 1 (a.2.2.1.map I))])
    (fun a=>(P-a.1).toNat) (fun a=>(a.1:Int)≤P∧a.2.2.1.length≤a.1∧Bl P (-1) a.2.2.1=0∧∀z∈a.2.2.1,z<(a.1:Int)) [(0,0),(1,1),(2,2),(3,3),(4,4)] [(0,0),(1,1),(2,2),(3,3),(4,4)] 0 [0,4,5,8] 900 zg zg (0,0,[],x2) ⟨by dsimp only;omega,by simp,rfl,by simp⟩ (by exact CZ) ?_
   clear x2;rintro ⟨k,g4,re,x2⟩ ⟨k0,k1,k2,k3⟩ J hcJ hJ;dsimp only at k0 k1 k2 k3 hJ ⊢;have CP:=Cm ⟨3,su,wi,dr,fl,co,m,de,re⟩ (by dsimp only;omega);rw [hPe' re] at CP;by_cases hk:(k:Int)<P
   ·by_cases ho:BC x2 6=0
    ·(have fa:=(And.intro @AO.eq_1 @Af.eq_1);(repeat' first|refine zS CP ?_|refine zJ (tg [0]) (Dt _ 6 (by omega)) ?_|refine zQ ?_|refine zN ?_;intro K hC hK|refine zM ?_;try clear hK hC K|refine zC ?_ ?_<;>intro hb|refine zK ?_;intro Jo JU JC AH AJ AG)<;>(try clear fa))
     refine hJ _ (k+1,g4+1,re++[(k:Int)],AR x2) (by dsimp only;omega) ⟨by dsimp only;omega,by simp;omega,Qh k2 k3 (by omega) (by omega) hk,fun z hz=> ?_⟩ (by (have fa:= @List.length_append.{0};exact CZ));rcases List.mem_append.1 hz with hz|hz
     ·have:=k3 z hz;dsimp only;omega
     ·simp at hz;dsimp only;omega
    ·(have fa:=(And.intro @AO.eq_1 @Af.eq_1);(repeat' first|refine zS CP ?_|refine zJ (tg [0]) (Dt _ 6 (by omega)) ?_|refine zQ ?_|refine zN ?_;intro K hC hK|refine zM ?_;try clear hK hC K|refine zC ?_ ?_<;>intro hb|refine zK ?_;intro Jo JU JC AH AJ AG)<;>(try clear fa))
     refine hJ _ (k+1,g4,re,AR x2) (by dsimp only;omega) ⟨by dsimp only;omega,by dsimp only;omega,k2,fun z hz=> ?_⟩ (by exact CZ);have:=k3 z hz;dsimp only;omega
   ·(have fa:= @AO.eq_1;(repeat' first|refine zS CP ?_|refine zQ ?_|refine zN ?_;intro K hC hK|refine zM ?_;try clear hK hC K|refine zC ?_ ?_<;>intro hb|refine zK ?_;intro Jo JU JC AH AJ AG)<;>(try clear fa))
    refine Aa [(0,0)] ?_ ?_<;>(first|exact AK|refine zE ?_);have HN:P6 ⟨3,su,wi,dr,fl,co,m,de,re⟩ m:=⟨rfl,hsu,hsl.2,b2,b3,by dsimp only;omega,b1,rfl,by dsimp only;omega⟩;have hPI:AQ ⟨3,su,wi,dr,fl,co,m,de,re⟩=P:=by unfold AQ;rw [Gh];exact hPe
    refine ⟨AO ⟨3,su,wi,dr,fl,co,m,de,re⟩,?_,(⟨3,su,wi,dr,fl,co,m,de,re⟩,x2),⟨HN,HN.ok hm hsl.1 (by rw [hPI];exact k2) (by rw [hPI];exact h)⟩,rfl,rfl⟩;unfold AO;refine An.agg ?_;(repeat first|exact EO.nil|refine GQ ?_)
theorem XX:AM Tryz.prog 66 [] (AO eO):=by
 refine NH ?_;refine zb Tryz.ntmps66 ?_;let tb:=fM;let lv:=aN;(repeat' first|refine zQ ?_|refine zN ?_;intro K hC hK|refine zM ?_;try clear hK hC K|refine zC ?_ ?_<;>intro hb|refine zK ?_;intro Jo JU JC AH AJ AG)
 refine Aa [] ?_ ?_<;>(first|exact AK|refine zE ?_);rfl
theorem Uh:AM Tryz.prog 67 [] (AO Eh):=by
 refine NH ?_;refine zb Tryz.ntmps67 ?_;let tb:=fO;let lv:=Zg;(repeat' first|refine zQ ?_|refine zN ?_;intro K hC hK|refine zM ?_;try clear hK hC K|refine zC ?_ ?_<;>intro hb|refine zK ?_;intro Jo JU JC AH AJ AG)
 refine Aa [] ?_ ?_<;>(first|exact AK|refine zE ?_);rfl
theorem XN:Jn eO:=⟨by decide +kernel,by decide⟩
theorem aQ (x:Int):Hn Tryz.prog 45 [.ref 0 0 0 0] (Af x) (fun a:AL×Int=>AO a.1) (fun a=>Af a.2) (fun a=>Jn a.1):=by
 have CL:=fun x' =>Qk x' (1+BC (AR x) 2) (by have:=Av (x:=AR x) (n:=2) (by omega) (by omega);omega)
 unfold Hn Af;by_cases ho:BC x 6=0
 ·refine FL 1 Tryz.ntmps45 ?_;let tb:=YP;let lv:=UJ;(have fa:= @Af.eq_1;(repeat' first|refine zJ (tg [0]) (Dt _ 6 (by omega)) ?_|refine zS XX ?_|refine zQ ?_|refine zN ?_;intro K hC hK|refine zM ?_;try clear hK hC K|refine zC ?_ ?_<;>intro hb|refine zK ?_;intro Jo JU JC AH AJ AG)<;>(try clear fa))
  refine Aa [(0,0)] ?_ ?_<;>(first|exact AK|refine zE ?_);exact ⟨(eO,_),XN,rfl,rfl⟩
 ·refine FL 1 Tryz.ntmps45 ?_;let tb:=YP;let lv:=UJ;(have fa:= @Af.eq_1;(repeat' first|refine zJ (tg [0]) (Dt _ 6 (by omega)) ?_|refine zJ (tg [0]) (EC _ 1 2 (by omega) (by omega) (by omega)) ?_|refine zQ ?_|refine zN ?_;intro K hC hK|refine zM ?_;try clear hK hC K|refine zC ?_ ?_<;>intro hb|refine zK ?_;intro Jo JU JC AH AJ AG)<;>(try clear fa))
  (have fa:= @Af.eq_1;refine zX (tg [0]) (CL _) ?_;clear AH AJ AG Jo JU JC;(try clear fa));intro xr hxr;(repeat' first|refine zQ ?_|refine zN ?_;intro K hC hK|refine zM ?_;try clear hK hC K|refine zC ?_ ?_<;>intro hb|refine zK ?_;intro Jo JU JC AH AJ AG)
  refine Aa [(0,0)] ?_ ?_<;>(first|exact AK|refine zE ?_);exact ⟨xr,⟨hxr.2,hxr.1.fl.2⟩,rfl,rfl⟩
end Go.Proofs.YthblfhgofopcaaaGreat
