/-
  Parts of the proof: LibC, TilesV.
-/
import Derived.Test.YthblfhgofopcaaaGreatSH13
import Derived.Test.YthblfhgofopcaaaGreatSH19
set_option linter.all false
namespace Go.Proofs.YthblfhgofopcaaaGreat
open Go.RowKit
set_option maxRecDepth 100000
set_option maxHeartbeats 2000000
theorem RN (n:Nat) (hn:n≤1000000):AM Tryz.prog 154 [.v (.int .u64 1), .v (.int .u64 n)] (.tup [.v (.int .u64 0), .v (.int .u64 n)]):=JN ⟨_,_,Tryz.func154,rfl,rfl⟩ fun c vals hx=>by
 obtain ⟨v,v',rfl,k1,k2⟩:=IJ hx;have:=As k1;subst this;have:=As k2;subst this;refine (Tryz.bits_Mul 1 n (by omega) (by omega) c.w).mono ?_;rintro e w' h;obtain ⟨rfl,rfl⟩:=h;rw [Nat.one_mul,Nat.div_eq_of_lt (by omega),Nat.mod_eq_of_lt (by omega)];exact ⟨rfl,Aw.refl _⟩
def E9 (x z:AV) (n c:Nat):List AV:=List.replicate c x++List.replicate (n-c) z
theorem Gr {x z:AV} {n c:Nat} (h:c≤n):(E9 x z n c).length=n:=by simp [E9];omega
theorem If (x z:AV) (n:Nat):E9 x z n 0=List.replicate n z:=by simp [E9]
theorem O1 (x z:AV) (n:Nat):E9 x z n n=List.replicate n x:=by simp [E9]
theorem Of {x z:AV} {n c:Nat}:(E9 x z n c).take c=List.replicate c x:=by simp [E9]
theorem Od {x z:AV} {n c m:Nat} (h:c+m≤n) (hm:m≤c):List.replicate c x++((List.replicate c x).take m++(E9 x z n c).drop (c+m))=E9 x z n (c+m):=by
 unfold E9;rw [List.take_replicate,Nat.min_eq_left hm,←List.append_assoc,List.replicate_append_replicate,List.drop_append,List.drop_of_length_le (by simp),List.nil_append,List.drop_replicate];congr 2;simp;omega
theorem Jy {inv:Nat→Option Nat} {F:Nat→Nat→Nat→Nat→AV} {x:AV} (hx:x.fin inv F=x) (n:Nat):finL inv F (List.replicate n x)=List.replicate n x:=by
 rw [Bo,List.map_replicate,hx]
theorem Ic {inv:Nat→Option Nat} {F:Nat→Nat→Nat→Nat→AV} {x z:AV} (hx:x.fin inv F=x) (hz:z.fin inv F=z) (n c:Nat):finL inv F (E9 x z n c)=E9 x z n c:=by
 unfold E9;rw [RY,Jy hx,Jy hz]
theorem Th {x:AV} {n:Nat} (hx:∀v∈x.cs,v.one=true):(∀u∈List.replicate n x,∀v∈u.cs,v.one=true)=True:=by
 simp only [eq_iff_iff,iff_true];intro u hu;rw [List.eq_of_mem_replicate hu];exact hx
theorem aZ (X:AV) (n:Nat) (hs:X.cs.length=1) (ox:∀v∈X.cs,v.one=true) (fx:∀inv F,X.fin inv F=X) (hn:n≤1000000):AM Tryz.prog 113 [.sl false 1 [X],I n] (.sl true 1 (List.replicate n X)):=by
 refine zc Tryz.ntmps113 ?_;let tb:=cT;have n0:¬(n:Int)<0:=by omega
 have n1:IntKind.u64.wrap (n:Int)=n:=by simp only [IntKind.wrap,IntKind.bits,IntKind.signed];simp;omega
 have n2:IntKind.i64.wrap (n:Int)=n:=Al (by omega) (by omega);have n3:¬(9223372036854775807:Int)<n:=by omega
 have n4:(8:Int)*n≤281474976710656:=by omega
 have n5:(n:Int)≤9223372036854775807:=by omega
 have n6:IntKind.u64.wrap 1=1:=rfl;(have fa:=(And.intro n0 @gt_iff_lt.{0});(repeat first | refine zG ?_ | ((with_reducible refine AC ?_);intro K hK) | (refine zM ?_;try clear hK K));(try clear fa))
 (have fa:=(And.intro n1 n6);refine zW (RN n hn) ?_;(try clear fa))
 obtain ⟨z,hz⟩:∃z:AV,z=(.v (.int .i64 0)):=⟨_,rfl⟩;have fz:∀inv F,z.fin inv F=z:=fun _ _=>by rw [hz];rfl
 have oz:∀v∈z.cs,v.one=true:=by rw [hz];intro v hv;simp [AV.cs] at hv;subst hv;rfl
 have ox' :=eq_true ox;by_cases h0:n=0
 ·subst h0;have m0:min 1 0=0:=rfl;(have fa:=(And.intro n1 (And.intro n2 (And.intro n3 (And.intro n4 (And.intro n5 (And.intro @gt_iff_lt.{0} (And.intro m0 (And.intro Int.mul_zero ox'))))))));(repeat first | refine zG ?_ | ((with_reducible refine AC ?_);intro K hK) | (refine zM ?_;try clear hK K));(try clear fa))
  refine EU 0 (fun _=>True) (fun _=>⟨80,[(7, .rsl 1 0 0 0),(8,I 0)],[(1, .arr 0 1 [])]⟩) [(352,1)] [(1,1)] 0 [7,8] 80 (BD (by decide) (by decide)) (BD (by decide) (by decide)) trivial (by exact zV) ?_;intro k hk _ J hJ;(repeat first | refine zG ?_ | ((with_reducible refine AC ?_);intro K hK) | (refine zM ?_;try clear hK K))
  refine DL ?_ ?_<;>(first | exact AK | refine zE ?_)
 ·have m1:min 1 n=1:=by omega
  have e0:List.replicate n (.v (.int .i64 0))=E9 X z n 0:=by rw [If,hz]
  have e1:X::(E9 X z n 0).drop 1=E9 X z n 1:=by
   rw [If];simp [E9,List.drop_replicate]
  have l0:1≤n:=by omega
  (have fa:=(And.intro n1 (And.intro n2 (And.intro n3 (And.intro n4 (And.intro n5 (And.intro @gt_iff_lt.{0} (And.intro m1 (And.intro e0 (And.intro (fun x z=>Gr (x:=x) (z:=z) (Nat.zero_le n)) (And.intro ox' (And.intro e1 (fun x z=>Gr (x:=x) (z:=z) l0))))))))))));(repeat first | refine zG ?_ | ((with_reducible refine AC ?_);intro K hK) | (refine zM ?_;try clear hK K));(try clear fa))
  refine NP (fun m σ=>∃c,1≤c∧c≤n∧m=n-c∧σ=⟨80,[(7, .rsl 1 0 0 n),(8,I c)],[(1, .arr 0 1 (E9 X z n c))]⟩) [(352,1)] [(1,1)] 0 [7,8] 80 (BD (by decide) (by decide)) (BD (by decide) (by decide)) ⟨_,1,Nat.le_refl _,l0,rfl,?_⟩ ?_
  ·(have fa:=(fun i f=>Ic (fx i f) (fz i f));first | exact AK | (refine zE ?_;try clear fa))
  ·rintro m σ ⟨c,hc1,hc2,rfl,rfl⟩ J hJ;(repeat first | refine zG ?_ | ((with_reducible refine AC ?_);intro K hK) | (refine zM ?_;try clear hK K))
   refine Ac rfl ⟨fun h=> ?_,fun h=> ?_⟩
   ·have hlt:c<n:=by simpa using h
    clear h;have hc0:(c:Int)≤n:=by omega
    have c0:(0:Int)≤c:=by omega
    have q1:((n:Int)-(c:Int)).toNat=n-c:=by omega
    have q2:((c:Int)-0).toNat=c:=by omega
    have q3:c+(n-c)≤n:=by omega
    have q4:min (min c n) (n-c)=min c (n-c):=by omega
    have q5:List.take c (E9 X z n c)=List.replicate c X:=Of;have q6:=Od (x:=X) (z:=z) (n:=n) (c:=c) (m:=min c (n-c)) (by omega) (by omega);rw [List.take_replicate] at q6;have q7:IntKind.i64.wrap ((c:Int)+((min c (n-c):Nat):Int))=((c+min c (n-c):Nat):Int):=by rw [Al (by omega) (by omega)];omega
    (have fa:=(And.intro hc0 (And.intro c0 (And.intro q1 (And.intro q2 (And.intro (fun x z=>Gr (x:=x) (z:=z) hc2) (And.intro q3 (And.intro q4 (And.intro q5 (And.intro hc2 (And.intro @List.length_replicate.{0} (And.intro (fun n=>Th (n:=n) ox) (And.intro Int.sub_zero (And.intro @List.take_replicate.{0} (And.intro q6 q7))))))))))))));(repeat first | refine zG ?_ | ((with_reducible refine AC ?_);intro K hK) | (refine zM ?_;try clear hK K));(try clear fa))
    refine hJ _ _ ?_ ⟨c+min c (n-c),by omega,by omega,rfl,?_⟩
    ·omega
    ·(have fa:=(fun i f=>Ic (fx i f) (fz i f));first | exact AK | (refine zE ?_;try clear fa))
   ·have hc:c=n:=by have:¬c<n:=by simpa using h
                    omega
    subst hc;clear h;(repeat first | refine zG ?_ | ((with_reducible refine AC ?_);intro K hK) | (refine zM ?_;try clear hK K))
    refine DL ?_ ?_<;>(first | exact AK | refine zE ?_);rw [O1,List.take_of_length_le (by simp),Jy (fx _ _),if_pos (by simp)]
theorem a8 (X:AV) (n:Nat) (hs:X.cs.length=3) (ox:∀v∈X.cs,v.one=true) (fx:∀inv F,X.fin inv F=X) (hn:n≤1000000):AM Tryz.prog 170 [.sl false 3 [X],I n] (.sl true 3 (List.replicate n X)):=by
 refine zc Tryz.ntmps170 ?_;let tb:=Y9;have n0:¬(n:Int)<0:=by omega
 have n1:IntKind.u64.wrap (n:Int)=n:=by simp only [IntKind.wrap,IntKind.bits,IntKind.signed];simp;omega
 have n2:IntKind.i64.wrap (n:Int)=n:=Al (by omega) (by omega);have n3:¬(9223372036854775807:Int)<n:=by omega
 have n4:(24:Int)*n≤281474976710656:=by omega
 have n5:(n:Int)≤9223372036854775807:=by omega
 have n6:IntKind.u64.wrap 1=1:=rfl;(have fa:=(And.intro n0 @gt_iff_lt.{0});(repeat first | refine zG ?_ | ((with_reducible refine AC ?_);intro K hK) | (refine zM ?_;try clear hK K));(try clear fa))
 (have fa:=(And.intro n1 n6);refine zW (RN n hn) ?_;(try clear fa))
 obtain ⟨z,hz⟩:∃z:AV,z=(.agg [.v (.int .i64 0), .v (.int .i64 0), .v (.bool false)]):=⟨_,rfl⟩;have fz:∀inv F,z.fin inv F=z:=fun _ _=>by rw [hz];rfl
 have oz:∀v∈z.cs,v.one=true:=by rw [hz];intro v hv;simp [AV.cs] at hv;rcases hv with rfl | rfl | rfl<;>rfl
 have ox' :=eq_true ox;by_cases h0:n=0
 ·subst h0;have m0:min 1 0=0:=rfl;(have fa:=(And.intro n1 (And.intro n2 (And.intro n3 (And.intro n4 (And.intro n5 (And.intro @gt_iff_lt.{0} (And.intro m0 (And.intro Int.mul_zero ox'))))))));(repeat first | refine zG ?_ | ((with_reducible refine AC ?_);intro K hK) | (refine zM ?_;try clear hK K));(try clear fa))
  refine EU 0 (fun _=>True) (fun _=>⟨80,[(7, .rsl 1 0 0 0),(8,I 0)],[(1, .arr 0 3 [])]⟩) [(352,1)] [(1,1)] 0 [7,8] 80 (BD (by decide) (by decide)) (BD (by decide) (by decide)) trivial (by exact zV) ?_;intro k hk _ J hJ;(repeat first | refine zG ?_ | ((with_reducible refine AC ?_);intro K hK) | (refine zM ?_;try clear hK K))
  refine DL ?_ ?_<;>(first | exact AK | refine zE ?_)
 ·have m1:min 1 n=1:=by omega
  have e0:List.replicate n (.agg [.v (.int .i64 0), .v (.int .i64 0), .v (.bool false)])=E9 X z n 0:=by rw [If,hz]
  have e1:X::(E9 X z n 0).drop 1=E9 X z n 1:=by
   rw [If];simp [E9,List.drop_replicate]
  have l0:1≤n:=by omega
  (have fa:=(And.intro n1 (And.intro n2 (And.intro n3 (And.intro n4 (And.intro n5 (And.intro @gt_iff_lt.{0} (And.intro m1 (And.intro e0 (And.intro (fun x z=>Gr (x:=x) (z:=z) (Nat.zero_le n)) (And.intro ox' (And.intro e1 (fun x z=>Gr (x:=x) (z:=z) l0))))))))))));(repeat first | refine zG ?_ | ((with_reducible refine AC ?_);intro K hK) | (refine zM ?_;try clear hK K));(try clear fa))
  refine NP (fun m σ=>∃c,1≤c∧c≤n∧m=n-c∧σ=⟨80,[(7, .rsl 1 0 0 n),(8,I c)],[(1, .arr 0 3 (E9 X z n c))]⟩) [(352,1)] [(1,1)] 0 [7,8] 80 (BD (by decide) (by decide)) (BD (by decide) (by decide)) ⟨_,1,Nat.le_refl _,l0,rfl,?_⟩ ?_
  ·(have fa:=(fun i f=>Ic (fx i f) (fz i f));first | exact AK | (refine zE ?_;try clear fa))
  ·rintro m σ ⟨c,hc1,hc2,rfl,rfl⟩ J hJ;(repeat first | refine zG ?_ | ((with_reducible refine AC ?_);intro K hK) | (refine zM ?_;try clear hK K))
   refine Ac rfl ⟨fun h=> ?_,fun h=> ?_⟩
   ·have hlt:c<n:=by simpa using h
    clear h;have hc0:(c:Int)≤n:=by omega
    have c0:(0:Int)≤c:=by omega
    have q1:((n:Int)-(c:Int)).toNat=n-c:=by omega
    have q2:((c:Int)-0).toNat=c:=by omega
    have q3:c+(n-c)≤n:=by omega
    have q4:min (min c n) (n-c)=min c (n-c):=by omega
    have q5:List.take c (E9 X z n c)=List.replicate c X:=Of;have q6:=Od (x:=X) (z:=z) (n:=n) (c:=c) (m:=min c (n-c)) (by omega) (by omega);rw [List.take_replicate] at q6;have q7:IntKind.i64.wrap ((c:Int)+((min c (n-c):Nat):Int))=((c+min c (n-c):Nat):Int):=by rw [Al (by omega) (by omega)];omega
    (have fa:=(And.intro hc0 (And.intro c0 (And.intro q1 (And.intro q2 (And.intro (fun x z=>Gr (x:=x) (z:=z) hc2) (And.intro q3 (And.intro q4 (And.intro q5 (And.intro hc2 (And.intro @List.length_replicate.{0} (And.intro (fun n=>Th (n:=n) ox) (And.intro Int.sub_zero (And.intro @List.take_replicate.{0} (And.intro q6 q7))))))))))))));(repeat first | refine zG ?_ | ((with_reducible refine AC ?_);intro K hK) | (refine zM ?_;try clear hK K));(try clear fa))
    refine hJ _ _ ?_ ⟨c+min c (n-c),by omega,by omega,rfl,?_⟩
    ·omega
    ·(have fa:=(fun i f=>Ic (fx i f) (fz i f));first | exact AK | (refine zE ?_;try clear fa))
   ·have hc:c=n:=by have:¬c<n:=by simpa using h
                    omega
    subst hc;clear h;(repeat first | refine zG ?_ | ((with_reducible refine AC ?_);intro K hK) | (refine zM ?_;try clear hK K))
    refine DL ?_ ?_<;>(first | exact AK | refine zE ?_);rw [O1,List.take_of_length_le (by simp),Jy (fx _ _),if_pos (by simp)]
theorem Jt (x:Int) (n:Nat) (hn:n≤1000000):AM Tryz.prog 113 [.sl false 1 [I x],I n] (AN true (List.replicate n x)):=by
 have:=aZ (I x) n rfl (by intro v hv;simp [AV.cs] at hv;subst hv;rfl) (fun _ _=>rfl) hn;rw [AN,List.map_replicate];exact this
theorem Jg (x:Gp) (n:Nat) (hn:n≤1000000):AM Tryz.prog 170 [.sl false 3 [AZ x],I n] (AX true (List.replicate n x)):=by
 have:=a8 (AZ x) n rfl (by intro v hv;simp [AV.cs,AZ] at hv;rcases hv with rfl | rfl | rfl<;>rfl) (fun _ _=>rfl) hn;rw [AX,List.map_replicate];exact this
theorem Ng {s:AL} {a k:Int} (h:Ak s a k=0):1≤a∧a≤5∧0≤k∧k<AY s∧(a=1→AT s k=true):=by
 unfold Ak at h;split at h
 ·cases h
 ·split at h
  ·cases h
  ·split at h
   ·cases h
   ·rename_i h1 h2 h3;exact ⟨by omega,by omega,by omega,by omega,fun e=>by cases hr:AT s k<;>simp_all⟩
theorem Ep (s:AL) (g:Gp):AM Tryz.prog 48 [AO s,AZ g] (AN true (BT s g.wh g.kd)):=by
 have neg:(AP s≠0∨Ak s g.wh g.kd≠0)→BT s g.wh g.kd=[]:=fun h=>by unfold BT;rw [if_neg (by omega)]
 by_cases hc:AP s=0
 ·have e:(AP s != 0)=false:=by simp [hc]
  by_cases hg:Ak s g.wh g.kd=0
  ·have e2:(Ak s g.wh g.kd != 0)=false:=by simp [hg]
   obtain ⟨a1,a2,k1,k2,_⟩:=Ng hg;have hk:=DI hc;have pos:BT s g.wh g.kd=AI g.wh g.kd:=by unfold BT;rw [if_pos ⟨hc,hg⟩]
   have w1:IntKind.i64.wrap (g.kd+1)=g.kd+1:=Al (by omega) (by omega);have w2:IntKind.i64.wrap (g.kd+2)=g.kd+2:=Al (by omega) (by omega);refine zc Tryz.ntmps48 ?_;let tb:=TO;(repeat first | refine zG ?_ | ((with_reducible refine AC ?_);intro K hK) | (refine zM ?_;try clear hK K))
   (refine zW (Bv s) ?_)
   (have fa:=e;(repeat first | refine zG ?_ | ((with_reducible refine AC ?_);intro K hK) | (refine zM ?_;try clear hK K));(try clear fa))
   (refine zW (FT s g) ?_)
   (have fa:=e2;(repeat first | refine zG ?_ | ((with_reducible refine AC ?_);intro K hK) | (refine zM ?_;try clear hK K));(try clear fa))
   refine Ac rfl ⟨fun h=> ?_,fun h=> ?_⟩
   ·have h1:g.wh=1:=by simpa using h
    (have fa:=(And.intro w1 w2);(repeat first | refine zG ?_ | ((with_reducible refine AC ?_);intro K hK) | (refine zM ?_;try clear hK K));(try clear fa))
    refine DL ?_ ?_<;>(first | exact AK | refine zE ?_);rw [pos,h1];simp [AI]
   ·have n1:g.wh≠1:=by simpa using h
    (repeat first | refine zG ?_ | ((with_reducible refine AC ?_);intro K hK) | (refine zM ?_;try clear hK K))
    refine Ac rfl ⟨fun h=> ?_,fun h=> ?_⟩
    ·have h1:g.wh=5:=by simpa using h
     (repeat first | refine zG ?_ | ((with_reducible refine AC ?_);intro K hK) | (refine zM ?_;try clear hK K))
     refine DL ?_ ?_<;>(first | exact AK | refine zE ?_);rw [pos,h1];simp [AI]
    ·have n5:g.wh≠5:=by simpa using h
     (repeat first | refine zG ?_ | ((with_reducible refine AC ?_);intro K hK) | (refine zM ?_;try clear hK K))
     refine Ac rfl ⟨fun h=> ?_,fun h=> ?_⟩
     ·have h1:g.wh=4:=by simpa using h
      (repeat first | refine zG ?_ | ((with_reducible refine AC ?_);intro K hK) | (refine zM ?_;try clear hK K))
      (refine zW (Jt g.kd 2 (by omega)) ?_)
      (repeat first | refine zG ?_ | ((with_reducible refine AC ?_);intro K hK) | (refine zM ?_;try clear hK K))
      refine DL ?_ ?_<;>(first | exact AK | refine zE ?_);rw [pos,h1];simp [AI]
     ·have n4:g.wh≠4:=by simpa using h
      have w3:IntKind.i64.wrap (g.wh+1)=((g.wh.toNat+1:Nat):Int):=by rw [Al (by omega) (by omega)];omega
      (have fa:=w3;(repeat first | refine zG ?_ | ((with_reducible refine AC ?_);intro K hK) | (refine zM ?_;try clear hK K));(try clear fa))
      (refine zW (Jt g.kd (g.wh.toNat+1) (by omega)) ?_)
      (repeat first | refine zG ?_ | ((with_reducible refine AC ?_);intro K hK) | (refine zM ?_;try clear hK K))
      refine DL ?_ ?_<;>(first | exact AK | refine zE ?_);rw [pos];rcases (show g.wh=2∨g.wh=3 by omega) with h1 | h1<;>rw [h1]<;>rfl
  ·have e2:(Ak s g.wh g.kd != 0)=true:=by simp [hg]
   rw [neg (.inr hg)];refine D2 (x:= .v (.slice none 0 0)) (fun _ _ _=>FX) ?_;refine zc Tryz.ntmps48 ?_;let tb:=TO;(repeat first | refine zG ?_ | ((with_reducible refine AC ?_);intro K hK) | (refine zM ?_;try clear hK K))
   (refine zW (Bv s) ?_)
   (have fa:=e;(repeat first | refine zG ?_ | ((with_reducible refine AC ?_);intro K hK) | (refine zM ?_;try clear hK K));(try clear fa))
   (refine zW (FT s g) ?_)
   (have fa:=e2;(repeat first | refine zG ?_ | ((with_reducible refine AC ?_);intro K hK) | (refine zM ?_;try clear hK K));(try clear fa))
   refine DL ?_ ?_<;>(first | exact AK | refine zE ?_)
 ·have e:(AP s != 0)=true:=by simp [hc]
  rw [neg (.inl hc)];refine D2 (x:= .v (.slice none 0 0)) (fun _ _ _=>FX) ?_;refine zc Tryz.ntmps48 ?_;let tb:=TO;(repeat first | refine zG ?_ | ((with_reducible refine AC ?_);intro K hK) | (refine zM ?_;try clear hK K))
  (refine zW (Bv s) ?_)
  (have fa:=e;(repeat first | refine zG ?_ | ((with_reducible refine AC ?_);intro K hK) | (refine zM ?_;try clear hK K));(try clear fa))
  refine DL ?_ ?_<;>(first | exact AK | refine zE ?_)
theorem EQ (g:Gp) (k0:0≤g.kd) (k1:g.kd≤1000):AM Tryz.prog 123 [AZ g] (AN true (AI g.wh g.kd)):=by
 have w1:IntKind.i64.wrap (g.kd+1)=g.kd+1:=Al (by omega) (by omega);have w2:IntKind.i64.wrap (g.kd+2)=g.kd+2:=Al (by omega) (by omega);refine zc Tryz.ntmps123 ?_;let tb:=Zx;(repeat first | refine zG ?_ | ((with_reducible refine AC ?_);intro K hK) | (refine zM ?_;try clear hK K))
 refine Ac rfl ⟨fun h=> ?_,fun h=> ?_⟩
 ·have h1:g.wh=1:=by simpa using h
  (have fa:=(And.intro w1 w2);(repeat first | refine zG ?_ | ((with_reducible refine AC ?_);intro K hK) | (refine zM ?_;try clear hK K));(try clear fa))
  refine DL ?_ ?_<;>(first | exact AK | refine zE ?_);rw [h1];simp [AI]
 ·have n1:g.wh≠1:=by simpa using h
  (repeat first | refine zG ?_ | ((with_reducible refine AC ?_);intro K hK) | (refine zM ?_;try clear hK K))
  refine Ac rfl ⟨fun h=> ?_,fun h=> ?_⟩
  ·have h1:g.wh=2:=by simpa using h
   (repeat first | refine zG ?_ | ((with_reducible refine AC ?_);intro K hK) | (refine zM ?_;try clear hK K))
   refine DL ?_ ?_<;>(first | exact AK | refine zE ?_);rw [h1];simp [AI]
  ·have n2:g.wh≠2:=by simpa using h
   (repeat first | refine zG ?_ | ((with_reducible refine AC ?_);intro K hK) | (refine zM ?_;try clear hK K))
   refine Ac rfl ⟨fun h=> ?_,fun h=> ?_⟩
   ·have h1:g.wh=3:=by simpa using h
    (repeat first | refine zG ?_ | ((with_reducible refine AC ?_);intro K hK) | (refine zM ?_;try clear hK K))
    refine DL ?_ ?_<;>(first | exact AK | refine zE ?_);rw [h1];simp [AI]
   ·have n3:g.wh≠3:=by simpa using h
    (repeat first | refine zG ?_ | ((with_reducible refine AC ?_);intro K hK) | (refine zM ?_;try clear hK K))
    refine Ac rfl ⟨fun h=> ?_,fun h=> ?_⟩
    ·have h1:g.wh=4:=by simpa using h
     (repeat first | refine zG ?_ | ((with_reducible refine AC ?_);intro K hK) | (refine zM ?_;try clear hK K))
     refine DL ?_ ?_<;>(first | exact AK | refine zE ?_);rw [h1];simp [AI]
    ·have n4:g.wh≠4:=by simpa using h
     (repeat first | refine zG ?_ | ((with_reducible refine AC ?_);intro K hK) | (refine zM ?_;try clear hK K))
     refine DL ?_ ?_<;>(first | exact AK | refine zE ?_);simp [AI,n1,n2,n3,n4]
theorem H3 (s:AL) (g:Gp):AM Tryz.prog 61 [AO s,AZ g] (AN true (BT s g.wh g.kd)):=by
 have neg:(AP s≠0∨Ak s g.wh g.kd≠0)→BT s g.wh g.kd=[]:=fun h=>by unfold BT;rw [if_neg (by omega)]
 by_cases hc:AP s=0
 ·have e:(AP s != 0)=false:=by simp [hc]
  by_cases hg:Ak s g.wh g.kd=0
  ·have e2:(Ak s g.wh g.kd != 0)=false:=by simp [hg]
   obtain ⟨a1,a2,k1,k2,_⟩:=Ng hg;have hk:=DI hc;have pos:BT s g.wh g.kd=AI g.wh g.kd:=by unfold BT;rw [if_pos ⟨hc,hg⟩]
   rw [pos];refine zc Tryz.ntmps61 ?_;let tb:=SQ;(repeat first | refine zG ?_ | ((with_reducible refine AC ?_);intro K hK) | (refine zM ?_;try clear hK K))
   (refine zW (Bk s) ?_)
   (have fa:=e;(repeat first | refine zG ?_ | ((with_reducible refine AC ?_);intro K hK) | (refine zM ?_;try clear hK K));(try clear fa))
   (refine zW (Em s g) ?_)
   (have fa:=e2;(repeat first | refine zG ?_ | ((with_reducible refine AC ?_);intro K hK) | (refine zM ?_;try clear hK K));(try clear fa))
   (refine zW (EQ g k1 (by omega)) ?_)
   (repeat first | refine zG ?_ | ((with_reducible refine AC ?_);intro K hK) | (refine zM ?_;try clear hK K))
   refine DL ?_ ?_<;>(first | exact AK | refine zE ?_)
  ·have e2:(Ak s g.wh g.kd != 0)=true:=by simp [hg]
   rw [neg (.inr hg)];refine D2 (x:= .v (.slice none 0 0)) (fun _ _ _=>FX) ?_;refine zc Tryz.ntmps61 ?_;let tb:=SQ;(repeat first | refine zG ?_ | ((with_reducible refine AC ?_);intro K hK) | (refine zM ?_;try clear hK K))
   (refine zW (Bk s) ?_)
   (have fa:=e;(repeat first | refine zG ?_ | ((with_reducible refine AC ?_);intro K hK) | (refine zM ?_;try clear hK K));(try clear fa))
   (refine zW (Em s g) ?_)
   (have fa:=e2;(repeat first | refine zG ?_ | ((with_reducible refine AC ?_);intro K hK) | (refine zM ?_;try clear hK K));(try clear fa))
   refine DL ?_ ?_<;>(first | exact AK | refine zE ?_)
 ·have e:(AP s != 0)=true:=by simp [hc]
  rw [neg (.inl hc)];refine D2 (x:= .v (.slice none 0 0)) (fun _ _ _=>FX) ?_;refine zc Tryz.ntmps61 ?_;let tb:=SQ;(repeat first | refine zG ?_ | ((with_reducible refine AC ?_);intro K hK) | (refine zM ?_;try clear hK K))
  (refine zW (Bk s) ?_)
  (have fa:=e;(repeat first | refine zG ?_ | ((with_reducible refine AC ?_);intro K hK) | (refine zM ?_;try clear hK K));(try clear fa))
  refine DL ?_ ?_<;>(first | exact AK | refine zE ?_)
end Go.Proofs.YthblfhgofopcaaaGreat
