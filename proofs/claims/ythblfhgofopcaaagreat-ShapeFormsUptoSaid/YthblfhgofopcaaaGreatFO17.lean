/-
  Parts of the proof: KitV.
-/
import Derived.Test.YthblfhgofopcaaaGreatSH13
import Derived.Test.YthblfhgofopcaaaGreatSH14
import Derived.Test.YthblfhgofopcaaaGreatFO14
import Derived.Test.YthblfhgofopcaaaGreatFO16
set_option linter.all false
namespace Go.Proofs.YthblfhgofopcaaaGreat
open Go.RowKit
set_option maxRecDepth 100000
set_option maxHeartbeats 2000000
theorem SF (K co:Int) (sev:Bool):∀(ks:List Int) (o:Option Int) (m:Int),BS K co sev o m ks=0→∀z∈ks,0≤z∧z<K
 | [],_,_,_,z,hz=>by cases hz
 | k::l,none,m,h,z,hz=>by
  unfold BS at h;split at h
  ·cases h
  ·rcases List.mem_cons.1 hz with rfl|hz
   ·omega
   ·exact SF K co sev l _ _ h z hz
 | k::l,some q,m,h,z,hz=>by
  unfold BS at h;split at h
  ·cases h
  ·split at h
   ·cases h
   ·have h' :∃m',BS K co sev (some k) m' l=0:=by
     split at h
     ·split at h
      ·cases h
      ·exact ⟨_,h⟩
     ·exact ⟨_,h⟩
    obtain ⟨m',h'⟩:=h';rcases List.mem_cons.1 hz with rfl|hz
    ·omega
    ·exact SF K co sev l _ _ h' z hz
structure wH (s:AL) (f:Fm):Prop where
 wh:1≤f.wh∧f.wh≤6
 ks:∀z∈f.ks,0≤z∧z<AQ s
 each:f.wh=3→(f.ks.length:Int)=3*s.me+1
 str:f.wh=5→s.su=[9,9,9]∧3≤s.me
theorem Zc {s:AL} {f:Fm} (h:Az s f=0):AP s=0∧wH s f:=by
 unfold Az at h;by_cases hv:AP s=0
 ·rw [if_neg (by simp [hv])] at h;split at h
  ·cases h
  ·split at h
   ·cases h
   ·rename_i h1 h2;refine ⟨hv,by omega,fun z hz=> ?_,fun h3=> ?_,fun h5=> ?_⟩
    ·have:=SF _ _ _ _ _ _ h z hz;rw [(A7 hv).2.1] at this;exact this
    ·unfold Cs at h2;omega
    ·unfold Cs at h2;by_cases hs:s.su=[9,9,9]
     ·exact ⟨hs,by omega⟩
     ·exact absurd (by simp [h5,hs]) h2
 ·rw [if_pos hv] at h;exact absurd h hv
theorem bD.len2 {P:Int} {l:List Int} (h:bD P l):l.length≤P.toNat:=by
 have h1:=Pm (n:=P.toNat) h.ri (fun z hz=>by have:=h.rg z hz;omega);rw [h1];refine Nat.le_trans (List.length_filter_le _ _) ?_;have:∀n,(Ki n).length=n:=fun n=>by induction n with
  | zero=>rfl
  | succ n ih=>simp [Ki,ih]
 rw [this];omega
structure WR where
 ms:List Gp
 X:List Int
 ok:Bool
 x:Int
structure s8 (s:AL) (P:Nat) (a:WR):Prop where
 xl:a.X.length=P
 yes:a.ok=true→Am s ⟨a.X,a.ms⟩=true
set_option maxHeartbeats 8000000 in
theorem jV (x:Int) (s:AL) (hM:Jn s) (f:Fm) (hf:Az s f=0) (hl:f.ks.length≤1000):Hn Tryz.prog 131 [.ref 0 0 0 0,AO s,DN false f] (Af x) (fun a:WR=> .tup [.agg [.rsl 1 0 0 (AQ s).toNat,AX false a.ms],B a.ok]) (fun a=>[(0, .arr 0 1 [U a.x]),(1, .arr 0 1 (a.X.map I))]) (s8 s (AQ s).toNat):=by
 obtain ⟨hv,fo⟩:=Zc hf;obtain ⟨p1,p2,p3,p4⟩:=A7 hv;have V:=AU hv;have hme:=V.me;have hco:=V.co;have CP:=Cm s (by have:=V.su3;omega);rw [p1] at CP;have CW:=UF x s hM;have CO:=fun ks hk hl=>VS s hv ks hk hl
 obtain ⟨P,hP⟩:∃P:Nat,AQ s=(P:Int):=⟨(AQ s).toNat,by omega⟩;have fks:=fo.ks;rw [hP] at CP p3 p4 CW CO fks ⊢;simp only [Int.toNat_natCast] at CW CO ⊢;have CF:∀X:List Int,X.length=P→AM Tryz.prog 54 [AO s, .agg [AN false X,Bw]] (B (Am s ⟨X,[]⟩)):=fun (X:List Int) (h1:X.length=P)=>OE (.cons .rfl' (.cons (An.agg (.cons .rfl' (.cons (An.nil false 3) .nil))) .nil)) (Fo s ⟨X,[]⟩ (by simp) (by simp;omega))
 clear V;unfold Hn Af;refine DX ?_;have hwh:=fo.wh;have hw:f.wh=1∨f.wh=2∨f.wh=3∨f.wh=4∨f.wh=5∨f.wh=6:=by omega
 rcases hw with e|e|e|e|e|e
 ·refine FL 1 Tryz.ntmps131 ?_;let tb:=IW;let lv:=Gl;(have fa:=e;(repeat' first|refine zQ ?_|refine zN ?_;intro K hC hK|refine zM ?_;try clear hK hC K|refine zC ?_ ?_<;>intro hb|refine zK ?_;intro Jo JU JC AH AJ AG)<;>(try clear fa))
  (have fa:= @Af.eq_1;refine zX (tg [0]) (CW) ?_;clear AH AJ AG Jo JU JC;(try clear fa));intro xr hxr;(repeat' first|refine zQ ?_|refine zN ?_;intro K hC hK|refine zM ?_;try clear hK hC K|refine zC ?_ ?_<;>intro hb|refine zK ?_;intro Jo JU JC AH AJ AG)
  refine Aa [(0,0),(369,1)] ?_ ?_<;>(first|exact AK|refine zE ?_);exact ⟨_, .rfl',⟨xr.ms,xr.X,xr.ok,xr.x⟩,⟨by obtain ⟨_,_,hfi⟩:=hxr.fi;exact hfi.xl,fun h=>(hxr.yes h).1⟩,rfl,rfl⟩
 ·have CD:=LZ x s hv ((3*s.me+2) / 2) (by omega) (by omega);rw [hP] at CD;have htd:(3*s.me+2).tdiv 2=(3*s.me+2) / 2:=Int.tdiv_eq_ediv_of_nonneg (by omega);refine FL 1 Tryz.ntmps131 ?_;let tb:=IW;let lv:=Gl;(have fa:=(And.intro e htd);(repeat' first|refine zQ ?_|refine zN ?_;intro K hC hK|refine zM ?_;try clear hK hC K|refine zC ?_ ?_<;>intro hb|refine zK ?_;intro Jo JU JC AH AJ AG)<;>(try clear fa))
  (have fa:= @Af.eq_1;refine zX (tg [0]) (CD) ?_;clear AH AJ AG Jo JU JC;(try clear fa));intro xr hxr;have hxl:=hxr.len2;rw [Int.toNat_natCast] at hxl;have hrg:=hxr.rg;obtain ⟨L,g,y⟩:=xr;dsimp only at hxl hrg ⊢;clear hxr;have CO1:=CO (L++L) (fun z hz=>by rcases List.mem_append.1 hz with h|h<;>exact hrg z h) (by simp;omega);have hTL:(L++L).take (L.length+L.length)=L++L:=List.take_of_length_le (by simp);obtain ⟨Y,hY⟩:∃Y,Dm (L++L) P=Y:=⟨_,rfl⟩;have hYl:Y.length=P:=by rw [←hY];exact Do _ _
  rw [hY] at CO1;have CF1:=CF Y hYl;have hTY:Y.take P=Y:=List.take_of_length_le (by omega);have hTY2:P≤Y.length:=by omega
  by_cases hsw:f.ag=true∧1<L.length∧s.co=4∧BC y 2=0
  ·obtain ⟨w1,w2,w3,w4⟩:=hsw;clear CO1 hTL hY hYl CF1 hTY hTY2 Y;obtain ⟨L',hL'⟩:∃L',L.set 1 L[0]=L' :=⟨_,rfl⟩;have hse:(L.map I).set 1 (I L[0])=L'.map I:=by rw [←hL'];exact (List.map_set ..).symm
   have hl' :L'.length=L.length:=by rw [←hL'];simp
   have CO1:=CO (L' ++L') (fun z hz=>by
    have hz' :z∈L' :=by rcases List.mem_append.1 hz with h|h<;>exact h
    rw [←hL'] at hz'
    rcases List.mem_or_eq_of_mem_set hz' with h|h
    ·exact hrg z h
    ·rw [h];exact hrg _ (List.getElem_mem _)) (by simp;omega)
   have hTL:(L' ++L').take (L.length+L'.length)=L' ++L' :=List.take_of_length_le (by simp;omega);have hTa:L'.take L.length=L' :=List.take_of_length_le (by omega);have hTb:L.length≤L'.length:=by omega
   have hTL2:L.length+L'.length≤L'.length+L'.length:=by omega
   obtain ⟨Y,hY⟩:∃Y,Dm (L' ++L') P=Y:=⟨_,rfl⟩;have hYl:Y.length=P:=by rw [←hY];exact Do _ _
   rw [hY] at CO1;have CF1:=CF Y hYl;have hTY:Y.take P=Y:=List.take_of_length_le (by omega);have hTY2:P≤Y.length:=by omega
   (have fa:=(And.intro @Af.eq_1 (And.intro w1 (And.intro w3 (And.intro w4 (And.intro hse (And.intro hTL (And.intro hTL2 (And.intro hTa (And.intro hTb (And.intro hTY (And.intro hTY2 @Ay)))))))))));(repeat' first|refine zJ (tg [0]) (Dt y 2 (by omega)) ?_|refine zO CO1 ?_|refine zS CF1 ?_|refine zQ ?_|refine zN ?_;intro K hC hK|refine zM ?_;try clear hK hC K|refine zC ?_ ?_<;>intro hb|refine zK ?_;intro Jo JU JC AH AJ AG)<;>(try clear fa))
   all_goals first
    | (exfalso;omega)
    | (first | (refine Aa [(0,0),(704,1)] ?_ ?_<;>(first | exact AK | refine zE ?_);exact ⟨_,An.tup (.cons (An.agg (by (repeat first | exact EO.nil | refine GQ ?_))) (.cons .rfl' .nil)),⟨[],Y,Am s ⟨Y,[]⟩,AR y⟩,⟨hYl,fun h=>h⟩,rfl,rfl⟩) | (refine Aa [(0,0),(720,1)] ?_ ?_<;>(first | exact AK | refine zE ?_);exact ⟨_,An.tup (.cons (An.agg (by (repeat first | exact EO.nil | refine GQ ?_))) (.cons .rfl' .nil)),⟨[],Y,Am s ⟨Y,[]⟩,AR y⟩,⟨hYl,fun h=>h⟩,rfl,rfl⟩) | (refine Aa [(0,0),(736,1)] ?_ ?_<;>(first | exact AK | refine zE ?_);exact ⟨_,An.tup (.cons (An.agg (by (repeat first | exact EO.nil | refine GQ ?_))) (.cons .rfl' .nil)),⟨[],Y,Am s ⟨Y,[]⟩,AR y⟩,⟨hYl,fun h=>h⟩,rfl,rfl⟩) | (refine Aa [(0,0),(752,1)] ?_ ?_<;>(first | exact AK | refine zE ?_);exact ⟨_,An.tup (.cons (An.agg (by (repeat first | exact EO.nil | refine GQ ?_))) (.cons .rfl' .nil)),⟨[],Y,Am s ⟨Y,[]⟩,AR y⟩,⟨hYl,fun h=>h⟩,rfl,rfl⟩) | (refine Aa [(0,0),(768,1)] ?_ ?_<;>(first | exact AK | refine zE ?_);exact ⟨_,An.tup (.cons (An.agg (by (repeat first | exact EO.nil | refine GQ ?_))) (.cons .rfl' .nil)),⟨[],Y,Am s ⟨Y,[]⟩,AR y⟩,⟨hYl,fun h=>h⟩,rfl,rfl⟩) | (refine Aa [(0,0),(784,1)] ?_ ?_<;>(first | exact AK | refine zE ?_);exact ⟨_,An.tup (.cons (An.agg (by (repeat first | exact EO.nil | refine GQ ?_))) (.cons .rfl' .nil)),⟨[],Y,Am s ⟨Y,[]⟩,AR y⟩,⟨hYl,fun h=>h⟩,rfl,rfl⟩) | (refine Aa [(0,0),(800,1)] ?_ ?_<;>(first | exact AK | refine zE ?_);exact ⟨_,An.tup (.cons (An.agg (by (repeat first | exact EO.nil | refine GQ ?_))) (.cons .rfl' .nil)),⟨[],Y,Am s ⟨Y,[]⟩,AR y⟩,⟨hYl,fun h=>h⟩,rfl,rfl⟩) | (refine Aa [(0,0),(672,1)] ?_ ?_<;>(first | exact AK | refine zE ?_);exact ⟨_,An.tup (.cons (An.agg (by (repeat first | exact EO.nil | refine GQ ?_))) (.cons .rfl' .nil)),⟨[],Y,Am s ⟨Y,[]⟩,y⟩,⟨hYl,fun h=>h⟩,rfl,rfl⟩) | (refine Aa [(0,0),(624,1)] ?_ ?_<;>(first | exact AK | refine zE ?_);exact ⟨_,An.tup (.cons (An.agg (by (repeat first | exact EO.nil | refine GQ ?_))) (.cons .rfl' .nil)),⟨[],Y,Am s ⟨Y,[]⟩,y⟩,⟨hYl,fun h=>h⟩,rfl,rfl⟩) | (refine Aa [(0,0),(576,1)] ?_ ?_<;>(first | exact AK | refine zE ?_);exact ⟨_,An.tup (.cons (An.agg (by (repeat first | exact EO.nil | refine GQ ?_))) (.cons .rfl' .nil)),⟨[],Y,Am s ⟨Y,[]⟩,y⟩,⟨hYl,fun h=>h⟩,rfl,rfl⟩))
  ·(have fa:=(And.intro @Af.eq_1 (And.intro hTL (And.intro hTY (And.intro hTY2 @Ay))));(repeat' first|refine zJ (tg [0]) (Dt y 2 (by omega)) ?_|refine zO CO1 ?_|refine zS CF1 ?_|refine zQ ?_|refine zN ?_;intro K hC hK|refine zM ?_;try clear hK hC K|refine zC ?_ ?_<;>intro hb|refine zK ?_;intro Jo JU JC AH AJ AG)<;>(try clear fa))
   all_goals first
    | (first | (refine Aa [(0,0),(704,1)] ?_ ?_<;>(first | exact AK | refine zE ?_);exact ⟨_,An.tup (.cons (An.agg (by (repeat first | exact EO.nil | refine GQ ?_))) (.cons .rfl' .nil)),⟨[],Y,Am s ⟨Y,[]⟩,AR y⟩,⟨hYl,fun h=>h⟩,rfl,rfl⟩) | (refine Aa [(0,0),(720,1)] ?_ ?_<;>(first | exact AK | refine zE ?_);exact ⟨_,An.tup (.cons (An.agg (by (repeat first | exact EO.nil | refine GQ ?_))) (.cons .rfl' .nil)),⟨[],Y,Am s ⟨Y,[]⟩,AR y⟩,⟨hYl,fun h=>h⟩,rfl,rfl⟩) | (refine Aa [(0,0),(736,1)] ?_ ?_<;>(first | exact AK | refine zE ?_);exact ⟨_,An.tup (.cons (An.agg (by (repeat first | exact EO.nil | refine GQ ?_))) (.cons .rfl' .nil)),⟨[],Y,Am s ⟨Y,[]⟩,AR y⟩,⟨hYl,fun h=>h⟩,rfl,rfl⟩) | (refine Aa [(0,0),(752,1)] ?_ ?_<;>(first | exact AK | refine zE ?_);exact ⟨_,An.tup (.cons (An.agg (by (repeat first | exact EO.nil | refine GQ ?_))) (.cons .rfl' .nil)),⟨[],Y,Am s ⟨Y,[]⟩,AR y⟩,⟨hYl,fun h=>h⟩,rfl,rfl⟩) | (refine Aa [(0,0),(768,1)] ?_ ?_<;>(first | exact AK | refine zE ?_);exact ⟨_,An.tup (.cons (An.agg (by (repeat first | exact EO.nil | refine GQ ?_))) (.cons .rfl' .nil)),⟨[],Y,Am s ⟨Y,[]⟩,AR y⟩,⟨hYl,fun h=>h⟩,rfl,rfl⟩) | (refine Aa [(0,0),(784,1)] ?_ ?_<;>(first | exact AK | refine zE ?_);exact ⟨_,An.tup (.cons (An.agg (by (repeat first | exact EO.nil | refine GQ ?_))) (.cons .rfl' .nil)),⟨[],Y,Am s ⟨Y,[]⟩,AR y⟩,⟨hYl,fun h=>h⟩,rfl,rfl⟩) | (refine Aa [(0,0),(800,1)] ?_ ?_<;>(first | exact AK | refine zE ?_);exact ⟨_,An.tup (.cons (An.agg (by (repeat first | exact EO.nil | refine GQ ?_))) (.cons .rfl' .nil)),⟨[],Y,Am s ⟨Y,[]⟩,AR y⟩,⟨hYl,fun h=>h⟩,rfl,rfl⟩) | (refine Aa [(0,0),(672,1)] ?_ ?_<;>(first | exact AK | refine zE ?_);exact ⟨_,An.tup (.cons (An.agg (by (repeat first | exact EO.nil | refine GQ ?_))) (.cons .rfl' .nil)),⟨[],Y,Am s ⟨Y,[]⟩,y⟩,⟨hYl,fun h=>h⟩,rfl,rfl⟩) | (refine Aa [(0,0),(624,1)] ?_ ?_<;>(first | exact AK | refine zE ?_);exact ⟨_,An.tup (.cons (An.agg (by (repeat first | exact EO.nil | refine GQ ?_))) (.cons .rfl' .nil)),⟨[],Y,Am s ⟨Y,[]⟩,y⟩,⟨hYl,fun h=>h⟩,rfl,rfl⟩) | (refine Aa [(0,0),(576,1)] ?_ ?_<;>(first | exact AK | refine zE ?_);exact ⟨_,An.tup (.cons (An.agg (by (repeat first | exact EO.nil | refine GQ ?_))) (.cons .rfl' .nil)),⟨[],Y,Am s ⟨Y,[]⟩,y⟩,⟨hYl,fun h=>h⟩,rfl,rfl⟩))
    | (exfalso;exact hsw ⟨by assumption,by omega,by omega,by first|assumption|omega|(simp_all;done)⟩)
 ·have h3:=fo.each e;have bb:=Av (x:=x) (n:=f.ks.length) (by omega) (by omega);have CB:=BI x f.ks.length (by omega);obtain ⟨k,hk⟩:∃k,BC x f.ks.length=k:=⟨_,rfl⟩;rw [hk] at bb;have hkl:k.toNat<f.ks.length:=by omega
  obtain ⟨z,hz⟩:∃z,f.ks[k.toNat]=z:=⟨_,rfl⟩;have hzb:=fks z (by rw [←hz];exact List.getElem_mem hkl);have CO1:Je Tryz.prog 169 [AO s, .sl false 1 (I z::f.ks.map I)] (.rsl 0 0 0 P) [(0, .arr 0 1 ((Dm (z::f.ks) P).map I))]:=CO (z::f.ks) (fun y hy=>by rcases List.mem_cons.1 hy with rfl|hy;exact hzb;exact fks y hy) (by simp;omega);obtain ⟨Y,hY⟩:∃Y,Dm (z::f.ks) P=Y:=⟨_,rfl⟩;have hYl:Y.length=P:=by rw [←hY];exact Do _ _
  rw [hY] at CO1;have CF1:=CF Y hYl;have hTY:Y.take P=Y:=List.take_of_length_le (by omega);have hTY2:P≤Y.length:=by omega
  have hTL:List.take (1+f.ks.length) (AV.v (.int .i64 z)::f.ks.map I)=AV.v (.int .i64 z)::f.ks.map I:=List.take_of_length_le (by simp;omega);have hTL2:1+f.ks.length≤f.ks.length+1:=by omega
  refine FL 1 Tryz.ntmps131 ?_;let tb:=IW;let lv:=Gl;(have fa:=(And.intro e (And.intro @Af.eq_1 (And.intro hk (And.intro hz (And.intro hTY (And.intro hTY2 (And.intro hTL (And.intro hTL2 @Ay))))))));(repeat' first|refine zO CO1 ?_|refine zS CF1 ?_|refine zJ (tg [0]) CB ?_|refine zQ ?_|refine zN ?_;intro K hC hK|refine zM ?_;try clear hK hC K|refine zC ?_ ?_<;>intro hb|refine zK ?_;intro Jo JU JC AH AJ AG)<;>(try clear fa))
  refine Aa [(0,0),(1296,1)] ?_ ?_<;>(first|exact AK|refine zE ?_);exact ⟨_,An.tup (.cons (An.agg (by (repeat first|exact EO.nil|refine GQ ?_))) (.cons .rfl' .nil)),⟨[],Y,Am s ⟨Y,[]⟩,AR x⟩,⟨hYl,fun h=>h⟩,rfl,rfl⟩
 ·have CN:=fR x s hv;rw [hP] at CN;refine FL 1 Tryz.ntmps131 ?_;let tb:=IW;let lv:=Gl;(have fa:=e;(repeat' first|refine zQ ?_|refine zN ?_;intro K hC hK|refine zM ?_;try clear hK hC K|refine zC ?_ ?_<;>intro hb|refine zK ?_;intro Jo JU JC AH AJ AG)<;>(try clear fa))
  (have fa:= @Af.eq_1;refine zX (tg [0]) (CN) ?_;clear AH AJ AG Jo JU JC;(try clear fa));intro xr hxr;have CO1:=CO xr.1 hxr.1 hxr.2;obtain ⟨Y,hY⟩:∃Y,Dm xr.1 P=Y:=⟨_,rfl⟩;have hYl:Y.length=P:=by rw [←hY];exact Do _ _
  rw [hY] at CO1;have CF1:=CF Y hYl;have hTY:Y.take P=Y:=List.take_of_length_le (by omega);have hTY2:P≤Y.length:=by omega
  (have fa:=(And.intro hTY (And.intro hTY2 @Ay));(repeat' first|refine zO CO1 ?_|refine zS CF1 ?_|refine zQ ?_|refine zN ?_;intro K hC hK|refine zM ?_;try clear hK hC K|refine zC ?_ ?_<;>intro hb|refine zK ?_;intro Jo JU JC AH AJ AG)<;>(try clear fa))
  refine Aa [(0,0),(368,1)] ?_ ?_<;>(first|exact AK|refine zE ?_);exact ⟨_,An.tup (.cons (An.agg (by (repeat first|exact EO.nil|refine GQ ?_))) (.cons .rfl' .nil)),⟨[],Y,Am s ⟨Y,[]⟩,xr.2⟩,⟨hYl,fun h=>h⟩,rfl,rfl⟩
 ·obtain ⟨hs9,hs3⟩:=fo.str e;have b1:=Av (x:=x) (n:=3) (by omega) (by omega);refine FL 1 Tryz.ntmps131 ?_;let tb:=IW;let lv:=Gl;(have fa:=(And.intro e @Af.eq_1);(repeat' first|refine zJ (tg [0]) (BI x 3 (by omega)) ?_|refine zQ ?_|refine zN ?_;intro K hC hK|refine zM ?_;try clear hK hC K|refine zC ?_ ?_<;>intro hb|refine zK ?_;intro Jo JU JC AH AJ AG)<;>(try clear fa))
  obtain ⟨sh,hsh⟩:∃sh,BC x 3=sh:=⟨_,rfl⟩;rw [hsh] at b1;obtain ⟨x1,hx1⟩:∃x1,AR x=x1:=⟨_,rfl⟩;rw [hsh,hx1];refine A8 (BY 8 500 0 1 (by rfl) (by rfl)) (α:=Nat×List Int×Nat) (fun a=>[(0, .ref 0 0 0 0),(4, .ref 1 0 0 0),(6, .ref 2 0 0 0),(8, .rsl 3 a.2.2 0 a.2.1.length),(10,I sh),(11,I a.1)]) (fun a=>[(0, .arr 0 1 [U x1]),(1, .arr 0 9 [AO s]),(2, .arr 0 2 [.agg [Bw,Bw]]),(3, .arr a.2.2 1 (a.2.1.map I))])
   (fun a=>9-a.1) (fun a=>a.1≤9∧a.2.1.length=a.1∧∀z∈a.2.1,0≤z∧z<(P:Int)) [(0,0),(64,1),(96,2),(500,3)] [(0,0),(1,1),(2,2),(3,3)] 0 [0,4,6,8,10,11] 900 zg zg (0,[],0) ⟨by dsimp only;omega,rfl,fun z hz=>by cases hz⟩ (by (have fa:=(And.intro @Dg.eq_1 (And.intro @Ci.eq_1 @Ci.eq_2));exact CZ)) ?_
  rintro ⟨i,l,g⟩ ⟨i1,i2,i3⟩ J hcJ hJ;dsimp only at i1 i2 i3 hJ ⊢;have hP27:27≤(P:Int):=by
   have:AQ s=s.su.sum+s.wi+s.dr:=by unfold AQ;rw [Gh];omega
   rw [hP,hs9] at this;have V:=AU hv;have:=V.wi;have:=V.dr;simp at *;omega
  have hT:l.take l.length=l:=List.take_length;by_cases hi:i<9
  ·have t1:(i:Int).tdiv 3=(i:Int) / 3:=Int.tdiv_eq_ediv_of_nonneg (by omega);have t2:(i:Int).tmod 3=(i:Int) % 3:=Int.tmod_eq_emod_of_nonneg (by omega);have t3:(sh+(i:Int) / 3).tmod 3=(sh+(i:Int) / 3) % 3:=Int.tmod_eq_emod_of_nonneg (by omega);(have fa:=(And.intro t1 (And.intro t2 (And.intro t3 hT)));(repeat' first|refine zQ ?_|refine zN ?_;intro K hC hK|refine zM ?_;try clear hK hC K|refine zC ?_ ?_<;>intro hb|refine zK ?_;intro Jo JU JC AH AJ AG)<;>(try clear fa))
   refine hJ _ (i+1,l++[9*((i:Int) / 3)+(sh+(i:Int) / 3) % 3+3*((i:Int) % 3)],g+1) (by dsimp only;omega) ⟨by dsimp only;omega,by simp;omega,fun z hz=> ?_⟩ (by (have fa:= @List.length_append.{0};exact CZ));rcases List.mem_append.1 hz with hz|hz
   ·exact i3 z hz
   ·simp at hz;omega
  ·have i9:i=9:=by omega
   have b2:=Av (x:=x1) (n:=7) (by omega) (by omega);obtain ⟨k,hk⟩:∃k,BC x1 7=k:=⟨_,rfl⟩;rw [hk] at b2;have b3:=Av (x:=AR x1) (n:=P) (by omega) (by omega);have CB:=BI (AR x1) P (by omega);obtain ⟨q,hq⟩:∃q,BC (AR x1) P=q:=⟨_,rfl⟩;rw [hq] at b3;obtain ⟨m,hm⟩:∃m:Nat,3*s.me=(m:Int):=⟨(3*s.me).toNat,by omega⟩;have hm9:m≤l.length+3:=by omega
   have em:((m:Int)-0).toNat=m:=by omega
   have hmi:min m (l.length+3)=m:=Nat.min_eq_left hm9;obtain ⟨F,hF⟩:∃F,(l++[k,k+1,k+2]).take m++[q,q]=F:=⟨_,rfl⟩;have hFm:List.take m (l.map I++[AV.v (.int .i64 k),AV.v (.int .i64 (k+1)),AV.v (.int .i64 (k+2))])++[AV.v (.int .i64 q),AV.v (.int .i64 q)]=F.map I:=by
    rw [←hF,List.map_append,List.map_take,List.map_append];rfl
   have hFl:F.length=m+2:=by rw [←hF];simp;omega
   have hFT:F.take (m+2)=F:=List.take_of_length_le (by omega);have hFT2:m+2≤F.length:=by omega
   have CO1:=CO F (fun z hz=>by
    rw [←hF] at hz
    rcases List.mem_append.1 hz with h|h
    ·rcases List.mem_append.1 (List.mem_of_mem_take h) with h|h
     ·exact i3 z h
     ·simp at h;omega
    ·simp at h;omega) (by omega)
   obtain ⟨Y,hY⟩:∃Y,Dm F P=Y:=⟨_,rfl⟩;have hYl:Y.length=P:=by rw [←hY];exact Do _ _
   rw [hY] at CO1;have CF1:=CF Y hYl;have hTY:Y.take P=Y:=List.take_of_length_le (by omega);have hTY2:P≤Y.length:=by omega
   (have fa:=(And.intro @Af.eq_1 (And.intro hk (And.intro hq (And.intro hT (And.intro hm (And.intro em (And.intro hmi (And.intro hFm (And.intro hFT (And.intro hFT2 (And.intro hTY (And.intro hTY2 @Ay))))))))))));(repeat' first|refine zS CP ?_|refine zJ (tg [0]) (BI x1 7 (by omega)) ?_|refine zJ (tg [0]) CB ?_|refine zO CO1 ?_|refine zS CF1 ?_|refine zQ ?_|refine zN ?_;intro K hC hK|refine zM ?_;try clear hK hC K|refine zC ?_ ?_<;>intro hb|refine zK ?_;intro Jo JU JC AH AJ AG)<;>(try clear fa))
   refine Aa [(0,0),(1396,1)] ?_ ?_<;>(first|exact AK|refine zE ?_);exact ⟨_,An.tup (.cons (An.agg (by (repeat first|exact EO.nil|refine GQ ?_))) (.cons .rfl' .nil)),⟨[],Y,Am s ⟨Y,[]⟩,AR (AR x1)⟩,⟨hYl,fun h=>h⟩,rfl,rfl⟩
 ·have CO1:=CO f.ks fks hl;obtain ⟨Y,hY⟩:∃Y,Dm f.ks P=Y:=⟨_,rfl⟩;have hYl:Y.length=P:=by rw [←hY];exact Do _ _
  rw [hY] at CO1;have CF1:=CF Y hYl;have hTY:Y.take P=Y:=List.take_of_length_le (by omega);have hTY2:P≤Y.length:=by omega
  refine FL 1 Tryz.ntmps131 ?_;let tb:=IW;let lv:=Gl;(have fa:=(And.intro e (And.intro hTY (And.intro hTY2 @Ay)));(repeat' first|refine zO CO1 ?_|refine zS CF1 ?_|refine zQ ?_|refine zN ?_;intro K hC hK|refine zM ?_;try clear hK hC K|refine zC ?_ ?_<;>intro hb|refine zK ?_;intro Jo JU JC AH AJ AG)<;>(try clear fa))
  refine Aa [(0,0),(416,1)] ?_ ?_<;>(first|exact AK|refine zE ?_);exact ⟨_,An.tup (.cons (An.agg (by (repeat first|exact EO.nil|refine GQ ?_))) (.cons .rfl' .nil)),⟨[],Y,Am s ⟨Y,[]⟩,x⟩,⟨hYl,fun h=>h⟩,rfl,rfl⟩
end Go.Proofs.YthblfhgofopcaaaGreat
