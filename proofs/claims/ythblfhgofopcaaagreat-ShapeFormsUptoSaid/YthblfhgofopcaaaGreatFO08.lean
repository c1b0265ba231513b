/-
  Parts of the proof: FmW.
-/
import Derived.Test.YthblfhgofopcaaaGreatSH13
import Derived.Test.YthblfhgofopcaaaGreatSH14
import Derived.Test.YthblfhgofopcaaaGreatSH23
import Derived.Test.YthblfhgofopcaaaGreatSH15
set_option linter.all false
namespace Go.Proofs.YthblfhgofopcaaaGreat
open Go.RowKit
set_option maxRecDepth 100000
set_option maxHeartbeats 2000000
theorem Xd {s:AL} (h:AP s=0):1≤s.me∧s.me≤4:=(AU h).me
set_option maxHeartbeats 8000000 in
theorem IF (s:AL) (f:Fm) (hl:f.ks.length≤1000000) (hs:s.su.length≤1000000):AM Tryz.prog 20 [AO s,DN false f] (I (Az s f)):=by
 by_cases c:AP s=0
 ·have hm:=Xd c;have hU:Az s f=if f.wh<1∨6<f.wh then 4 else if Cs s f then 3 else BS (AY s) s.co (f.wh==6) none 0 f.ks:=by simp [Az,c]
  obtain ⟨E,hE⟩:∃E,E=BS (AY s) s.co (f.wh==6) none 0 f.ks:=⟨_,rfl⟩;have CK:=Lp s f.ks (f.wh==6) hl;rw [←hE] at hU CK;have CE:=Ld s.su [9,9,9] hs;obtain ⟨e9,h9⟩:∃e9,e9=decide (s.su=[9,9,9]):=⟨_,rfl⟩;rw [←h9] at CE;have hW:Cs s f↔(0<f.ks.length∧f.wh≠3∧f.wh≠6)∨(f.ag=true∧f.wh≠2)∨(f.wh=2∧(3*s.me+2).tmod 2=1)∨(f.wh=3∧(f.ks.length:Int)≠3*s.me+1)∨(f.wh=5∧(e9=false∨s.me<3))∨(f.wh=6∧(f.ks.length:Int)≠3*s.me+2):=by
   unfold Cs;rw [Int.tmod_eq_emod_of_nonneg (by omega),h9];simp
  clear h9 hE;refine zb Tryz.ntmps20 ?_;let tb:=Xy;let lv:=Tf;(repeat' first|refine zS (Bv s) ?_|refine zS CE ?_|refine zS CK ?_|refine zQ ?_|refine zN ?_;intro K hC hK|refine zM ?_;try clear hK hC K|refine zC ?_ ?_<;>intro hb|refine zK ?_;intro Jo JU JC AH AJ AG)
  all_goals (refine Aa [] ?_ ?_<;>(first|exact AK|refine zE ?_);try (rw [hU];by_cases w:Cs s f<;>simp only [w,if_true,if_false]<;>rw [hW] at w<;>((repeat' split)<;>first|rfl|(exfalso;omega)|(simp_all;done)|(simp_all;omega))))
 ·refine zb Tryz.ntmps20 ?_;let tb:=Xy;let lv:=Tf;(repeat' first|refine zS (Bv s) ?_|refine zQ ?_|refine zN ?_;intro K hC hK|refine zM ?_;try clear hK hC K|refine zC ?_ ?_<;>intro hb|refine zK ?_;intro Jo JU JC AH AJ AG)
  refine Aa [] ?_ ?_<;>(first|exact AK|refine zE ?_);simp [Az,c]
set_option maxHeartbeats 8000000 in
theorem Hh (s:AL) (f:Fm) (hl:f.ks.length≤1000000) (hs:s.su.length≤1000000):AM Tryz.prog 21 [AO s,DN false f] (I (Az s f)):=by
 by_cases c:AP s=0
 ·have hm:=Xd c;have hU:Az s f=if f.wh<1∨6<f.wh then 4 else if Cs s f then 3 else BS (AY s) s.co (f.wh != 3) none 0 f.ks:=by
   by_cases w:Cs s f
   ·simp [Az,c,w]
   ·rw [cB _ _ w];simp [Az,c,w]
  obtain ⟨E,hE⟩:∃E,E=BS (AY s) s.co (f.wh != 3) none 0 f.ks:=⟨_,rfl⟩;have CK:=Kv s f hl;rw [←hE] at hU CK;have CE:=Rj s hs;obtain ⟨e9,h9⟩:∃e9,e9=decide (s.su=[9,9,9]):=⟨_,rfl⟩;rw [←h9] at CE;have hW:Cs s f↔(0<f.ks.length∧f.wh≠3∧f.wh≠6)∨(f.ag=true∧f.wh≠2)∨(f.wh=2∧(3*s.me+2).tmod 2=1)∨(f.wh=3∧(f.ks.length:Int)≠3*s.me+1)∨(f.wh=5∧(e9=false∨s.me<3))∨(f.wh=6∧(f.ks.length:Int)≠3*s.me+2):=by
   unfold Cs;rw [Int.tmod_eq_emod_of_nonneg (by omega),h9];simp
  clear h9 hE;refine zb Tryz.ntmps21 ?_;let tb:=V5;let lv:=UD;(repeat' first|refine zS (Bk s) ?_|refine zS CE ?_|refine zS CK ?_|refine zQ ?_|refine zN ?_;intro K hC hK|refine zM ?_;try clear hK hC K|refine zC ?_ ?_<;>intro hb|refine zK ?_;intro Jo JU JC AH AJ AG)
  all_goals (refine Aa [] ?_ ?_<;>(first|exact AK|refine zE ?_);try (rw [hU];by_cases w:Cs s f<;>simp only [w,if_true,if_false]<;>rw [hW] at w<;>((repeat' split)<;>first|rfl|(exfalso;omega)|(simp_all;done)|(simp_all;omega))))
 ·refine zb Tryz.ntmps21 ?_;let tb:=V5;let lv:=UD;(repeat' first|refine zS (Bk s) ?_|refine zQ ?_|refine zN ?_;intro K hC hK|refine zM ?_;try clear hK hC K|refine zC ?_ ?_<;>intro hb|refine zK ?_;intro Jo JU JC AH AJ AG)
  refine Aa [] ?_ ?_<;>(first|exact AK|refine zE ?_);simp [Az,c]
def El (s:AL):List Fm→Int
 | []=>0
 | f::l=>if Az s f≠0 then Az s f else El s l
def A6 (s:AL) (l:List Fm):Int:=if AP s≠0 then AP s else if l.length=0 then 6 else if 8<l.length then 8 else El s l
theorem LH {s:AL} {l:List Fm} {k:Nat} (h:k<l.length):El s (l.drop k)=if Az s l[k]≠0 then Az s l[k] else El s (l.drop (k+1)):=by
 rw [List.drop_eq_getElem_cons h,El]
theorem Lr (s:AL) (l:List Fm) (hf:∀f∈l,f.ks.length≤1000000) (hl:l.length≤1000000) (hs:s.su.length≤1000000):AM Tryz.prog 22 [AO s,Bh false l] (I (A6 s l)):=by
 refine zb Tryz.ntmps22 ?_;let tb:=fL;let lv:=bC;(repeat' first|refine zS (Bv s) ?_|refine zQ ?_|refine zN ?_;intro K hC hK|refine zM ?_;try clear hK hC K|refine zC ?_ ?_<;>intro hb|refine zK ?_;intro Jo JU JC AH AJ AG)
 iterate 3
  ·refine Aa [] ?_ ?_<;>(first|exact AK|refine zE ?_);unfold A6;((repeat' split)<;>first|rfl|(exfalso;omega)|(simp_all;done)|(simp_all;omega))
 ·have hc:AP s=0:=by assumption
  have hU:A6 s l=El s l:=by unfold A6;rw [if_neg (by omega),if_neg (by omega),if_neg (by omega)]
  refine Ab l.length (fun k σ=>El s l=El s (l.drop k)∧σ=⟨900,[(2, .ref 0 0 0 0),(22,Bh false l),(23,I l.length),(24,I k)],[(0, .arr 0 9 [AO s])]⟩) [(0,0)] [(0,0)] 0 [2,22,23,24] 900 zf zf ⟨rfl,by exact zV⟩ ?_;rintro k σ' hk ⟨hR,rfl⟩ J hcJ hJ;have hS:= @LH s l k;by_cases h:k<l.length
  ·have CF:=IF s l[k] (hf _ (List.getElem_mem h)) hs;have hS:=hS h;(repeat' first|refine zS CF ?_|refine zQ ?_|refine zN ?_;intro K hC hK|refine zM ?_;try clear hK hC K|refine zC ?_ ?_<;>intro hb|refine zK ?_;intro Jo JU JC AH AJ AG)
   ·refine Aa [] ?_ ?_<;>(first|exact AK|refine zE ?_);rw [hU,hR,hS];((repeat' split)<;>first|rfl|(exfalso;omega)|(simp_all;done)|(simp_all;omega))
   ·refine hJ _ h ⟨?_,by exact zV⟩;rw [hR,hS];((repeat' split)<;>first|rfl|(exfalso;omega)|(simp_all;done)|(simp_all;omega))
  ·(repeat' first|refine zQ ?_|refine zN ?_;intro K hC hK|refine zM ?_;try clear hK hC K|refine zC ?_ ?_<;>intro hb|refine zK ?_;intro Jo JU JC AH AJ AG)
   refine Aa [] ?_ ?_<;>(first|exact AK|refine zE ?_);rw [hU,hR,List.drop_eq_nil_of_le (by omega)];rfl
theorem E4 (s:AL) (l:List Fm) (hf:∀f∈l,f.ks.length≤1000000) (hl:l.length≤1000000) (hs:s.su.length≤1000000):AM Tryz.prog 23 [AO s,Bh false l] (I (A6 s l)):=by
 refine zb Tryz.ntmps23 ?_;let tb:=gA;let lv:=Y7;(repeat' first|refine zS (Bk s) ?_|refine zQ ?_|refine zN ?_;intro K hC hK|refine zM ?_;try clear hK hC K|refine zC ?_ ?_<;>intro hb|refine zK ?_;intro Jo JU JC AH AJ AG)
 iterate 3
  ·refine Aa [] ?_ ?_<;>(first|exact AK|refine zE ?_);unfold A6;((repeat' split)<;>first|rfl|(exfalso;omega)|(simp_all;done)|(simp_all;omega))
 ·have hc:AP s=0:=by assumption
  have hU:A6 s l=El s l:=by unfold A6;rw [if_neg (by omega),if_neg (by omega),if_neg (by omega)]
  refine Ab l.length (fun k σ=>El s l=El s (l.drop k)∧σ=⟨900,[(1,Bh false l),(2, .ref 0 0 0 0),(6,I k)],[(0, .arr 0 9 [AO s])]⟩) [(0,0)] [(0,0)] 0 [1,2,6] 900 zf zf ⟨rfl,by exact zV⟩ ?_;rintro k σ' hk ⟨hR,rfl⟩ J hcJ hJ;have hS:= @LH s l k;by_cases h:k<l.length
  ·have CF:=Hh s l[k] (hf _ (List.getElem_mem h)) hs;have hS:=hS h;(repeat' first|refine zS CF ?_|refine zQ ?_|refine zN ?_;intro K hC hK|refine zM ?_;try clear hK hC K|refine zC ?_ ?_<;>intro hb|refine zK ?_;intro Jo JU JC AH AJ AG)
   ·refine Aa [] ?_ ?_<;>(first|exact AK|refine zE ?_);rw [hU,hR,hS];((repeat' split)<;>first|rfl|(exfalso;omega)|(simp_all;done)|(simp_all;omega))
   ·refine hJ _ h ⟨?_,by exact zV⟩;rw [hR,hS];((repeat' split)<;>first|rfl|(exfalso;omega)|(simp_all;done)|(simp_all;omega))
  ·(repeat' first|refine zQ ?_|refine zN ?_;intro K hC hK|refine zM ?_;try clear hK hC K|refine zC ?_ ?_<;>intro hb|refine zK ?_;intro Jo JU JC AH AJ AG)
   refine Aa [] ?_ ?_<;>(first|exact AK|refine zE ?_);rw [hU,hR,List.drop_eq_nil_of_le (by omega)];rfl
end Go.Proofs.YthblfhgofopcaaaGreat
