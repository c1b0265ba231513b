/-
  Parts of the proof: WWins.
-/
import Derived.Test.YthblfhgofopcaaaGreatSH13
import Derived.Test.YthblfhgofopcaaaGreatSH14
import Derived.Test.YthblfhgofopcaaaGreatSH41
import Derived.Test.YthblfhgofopcaaaGreatSH46
import Derived.Test.YthblfhgofopcaaaGreatSH47
set_option linter.all false
namespace Go.Proofs.YthblfhgofopcaaaGreat
open Go.RowKit
set_option maxRecDepth 100000
set_option maxHeartbeats 2000000
def Ug (s:AL) (l:List Fm) (h:Hd):Bool:=Dn s h (Hf s h) l
def Hm (s:AL) (l:List Fm) (h:Hd):List Int:=DC s h l fun k=>Dn s ⟨Aq h.bag k,h.me⟩ (Hf s ⟨Aq h.bag k,h.me⟩) l
structure FM (s:AL) (l:List Fm) (h:Hd):Prop where
 f:∀f∈l,f.ks.length≤1000000
 l:l.length≤1000000
 s:s.su.length≤1000000
 m:h.me.length≤1000000
 b:h.bag.length≤1000000
theorem HW {s:AL} {l:List Fm} {h:Hd} (hf:Ch s l h=true):∀f∈l,Az s f=0:=by
 unfold Ch at hf;simp only [Bool.and_eq_true,decide_eq_true_eq] at hf;exact (Ht hf.1).2.2
theorem Fw {s:AL} {l:List Fm} {h:Hd} (S:FM s l h):AM Tryz.prog 33 [AO s,Bh false l,Cb false h] (B (Ug s l h)) :=
 OD s h (Hf s h) l S.f S.l S.s S.m S.b fun hf hu f hm=>LU s f h (HW hf f hm) hu
theorem G4 {s:AL} {l:List Fm} {h:Hd} (S:FM s l h):AM Tryz.prog 34 [AO s,Bh false l,Cb false h] (B (Ug s l h)) :=
 TE s h (Hf s h) l S.f S.l S.s S.m S.b fun hf hu f hm=>Kp s f h ((Ht hf).2.2 f hm) hu
theorem GK {s:AL} {l:List Fm} {h:Hd} (S:FM s l h):AM Tryz.prog 36 [AO s,Bh false l,Cb false h] (AN true (Hm s l h)) :=
 M2 s h l _ S.f S.l S.s S.m S.b fun _ k _=>Fw (s:=s) (l:=l) (h:=⟨Aq h.bag k,h.me⟩) ⟨S.f,S.l,S.s,S.m,by dsimp only;rw [Cy];exact S.b⟩
theorem GC {s:AL} {l:List Fm} {h:Hd} (S:FM s l h):AM Tryz.prog 37 [AO s,Bh false l,Cb false h] (AN true (Hm s l h)) :=
 QS s h l S.f S.l S.s S.m S.b
theorem Il (s:AL) (l:List Fm) (h:Hd):(Hm s l h).length≤h.bag.length:=by
 unfold Hm DC;split
 ·exact KA _ _
 ·simp
theorem Hs (a:List Int) (ha:a.length≤1000000):AM Tryz.prog 35 [AN false a,AN false a] (B true):=by
 have:=Lb a a ha;rw [decide_eq_true rfl] at this;exact this
theorem Fp (a:Hd) (h1:a.bag.length≤1000000) (h2:a.me.length≤1000000):AM Tryz.prog 31 [Cb false a,Cb false a] (B true):=by
 have:=Sv a a h1 h2;rw [decide_eq_true rfl,decide_eq_true rfl] at this;exact this
set_option maxHeartbeats 8000000 in
theorem SN (s:AL) (l:List Fm) (h:Hd) (nums:List Int) (hn:nums.length≤9223372036854775807):AM Tryz.prog 5 [AO s,Bh false l,Cb false h,AN false nums] (B true):=by
 have CB:=RT s l h;cases c:NJ s l h with
 | true =>
  rw [c] at CB;refine zb Tryz.ntmps5 ?_;let tb:=dF;let lv:=XP;(repeat' first | refine zS CB ?_ | refine zS Gy ?_ | refine zQ ?_ | (refine zN ?_;intro K hC hK) | (refine zM ?_;try clear hK hC K) | (refine zC ?_ ?_<;>intro hb) | (refine zK ?_;intro Jo JU JC AH AJ AG))
  refine Aa [] ?_ ?_<;>(first | exact AK | refine zE ?_)
 | false =>
  rw [c] at CB;have hbl:s.su.length≤20∧l.length≤12∧h.bag.length≤60∧h.me.length≤10:=by
   unfold NJ at c;simp at c;omega
  have hl1:∀f∈l,f.ks.length≤1000000:=fun f hf=>by
   unfold NJ at c;simp at c;have:=c.2 f hf;omega
  clear c;obtain ⟨hsu,hll,hb1,hb2⟩:=hbl;obtain ⟨hbag,hmel⟩:=h;dsimp only at hb1 hb2;refine zb Tryz.ntmps5 ?_;let tb:=dF;let lv:=XP;(repeat' first | refine zS CB ?_ | refine zQ ?_ | (refine zN ?_;intro K hC hK) | (refine zM ?_;try clear hK hC K) | (refine zC ?_ ?_<;>intro hb) | (refine zK ?_;intro Jo JU JC AH AJ AG))
  (refine zX (tg []) (Tu nums hn) ?_;clear AH AJ AG Jo JU JC);intro xr hxr;have V:=hxr.made.ok;have hxl:=hxr.xl;have hpl:=(A7 V).2.2.2;have hfull:=hxr.full;have hfo:=hxr.fo;have hf3:=hxr.f3;obtain ⟨y,t,fs,ms,X,g0⟩:=xr;dsimp only at V hxl hpl hfull hfo hf3 ⊢;have ho:G5 t ⟨X,ms⟩:=DP (by unfold Am at hfull;simp at hfull;exact hfull.1);have hrg:=ho.rg;have hmm:=ho.mm;have hlo:=ho.lo;have hme:=(AU V).me;have hco:=(AU V).co;have hsu3:=(AU V).su3;have hfs1:∀f∈fs,f.ks.length≤1000000:=fun f hf=>by have:=(hfo f hf).2;omega
  dsimp only at hrg hmm hlo;clear hxr hfull hfo ho;have hTX:List.take X.length X=X:=List.take_length;have CWo:=Oh y ⟨X,ms⟩ (by dsimp only;omega) (by dsimp only;omega) (fun z hz=>by have:=hrg z hz;omega) (by dsimp only;omega);(repeat' first | refine zQ ?_ | (refine zN ?_;intro K hC hK) | (refine zM ?_;try clear hK hC K) | (refine zC ?_ ?_<;>intro hb) | (refine zK ?_;intro Jo JU JC AH AJ AG))
  (have fa:=(And.intro @Af.eq_1 hTX);refine jY (tg [128]) (CWo) ?_;clear AH AJ AG Jo JU JC;(try clear fa));intro xr hxr;obtain ⟨q1,q2⟩:=hxr;obtain ⟨i,y3⟩:=xr;dsimp only at q1 q2 ⊢;have hRl:(X.set i (X.getD i 0-1)).length=X.length:=List.length_set ..;obtain ⟨R,hR⟩:∃R,X.set i (X.getD i 0-1)=R:=⟨_,rfl⟩;rw [hR] at hRl ⊢;have hTR:List.take X.length R=R:=List.take_of_length_le (by omega);have hTR2:X.length≤R.length:=by omega
  (have fa:=(And.intro hTX (And.intro hTR hTR2));(repeat' first | refine zQ ?_ | (refine zN ?_;intro K hC hK) | (refine zM ?_;try clear hK hC K) | (refine zC ?_ ?_<;>intro hb) | (refine zK ?_;intro Jo JU JC AH AJ AG))<;>(try clear fa))
  refine Ab 4 (fun j σ=>σ=⟨900,[(14, .rsl 0 0 0 4),(15, .rsl 1 0 0 4),(16, .rsl 2 0 0 4),(17,I j)],[(0, .arr 0 9 [AO s,AO t,AO t,AO t]),(1, .arr 0 1 [Bh false l,Bh false fs,Bh false fs,Bh false l]),(2, .arr 0 2 [Cb false ⟨hbag,hmel⟩, .agg [AN true X,AX false ms], .agg [AN true R,AX true ms], .agg [AN true R,AX true ms]])]⟩) [(464,0),(544,1),(624,2)] [(0,0),(1,1),(2,2)] 1 [14,15,16,17] 900 zf zf (by (have fa:=(And.intro hTX (And.intro hTR hTR2));exact zV)) ?_;rintro j σ' hj rfl J hcJ hJ;have hj4:j=0∨j=1∨j=2∨j=3∨j=4:=by omega
  rcases hj4 with rfl | rfl | rfl | rfl | rfl
  ·
   have hS:FM s l ⟨hbag,hmel⟩:=⟨by first | assumption | exact hl1 | exact hfs1,by omega,by omega,by dsimp only;omega,by dsimp only;omega⟩;have CC:=Ej ⟨hbag,hmel⟩ (by dsimp only;omega) (by dsimp only;omega);have C1:=Fw hS;have C2:=G4 hS;have C3:=GK hS;have C4:=GC hS;have hwl:=Il s l ⟨hbag,hmel⟩;dsimp only at hwl CC;have CE:=Hs (Hm s l ⟨hbag,hmel⟩) (by omega);have CS:=Fp ⟨hbag,hmel⟩ (by dsimp only;omega) (by dsimp only;omega);obtain ⟨q,hq⟩:∃q,Ug s l ⟨hbag,hmel⟩=q:=⟨_,rfl⟩;rw [hq] at C1 C2;obtain ⟨ww,hww⟩:∃ww,Hm s l ⟨hbag,hmel⟩=ww:=⟨_,rfl⟩;rw [hww] at C3 C4 CE hwl;clear hq hww;have hTB:List.take hbag.length hbag=hbag:=List.take_length;have hTM:List.take hmel.length hmel=hmel:=List.take_length;(have fa:=(And.intro hTB (And.intro hTM (And.intro @Ay @bne_self_eq_false.{0})));(repeat' first | refine zO CC ?_ | refine zS C1 ?_ | refine zS C2 ?_ | refine zS C3 ?_ | refine zS C4 ?_ | refine zS CE ?_ | refine zS CS ?_ | refine zQ ?_ | (refine zN ?_;intro K hC hK) | (refine zM ?_;try clear hK hC K) | (refine zC ?_ ?_<;>intro hb) | (refine zK ?_;intro Jo JU JC AH AJ AG))<;>(try clear fa))
   exact hJ _ (by omega) (by (have fa:=(And.intro hTB hTM);exact zV))
  ·
   have hS:FM t fs ⟨X,ms⟩:=⟨by first | assumption | exact hl1 | exact hfs1,by omega,by omega,by dsimp only;omega,by dsimp only;omega⟩;have CC:=Ej ⟨X,ms⟩ (by dsimp only;omega) (by dsimp only;omega);have C1:=Fw hS;have C2:=G4 hS;have C3:=GK hS;have C4:=GC hS;have hwl:=Il t fs ⟨X,ms⟩;dsimp only at hwl CC;have CE:=Hs (Hm t fs ⟨X,ms⟩) (by omega);have CS:=Fp ⟨X,ms⟩ (by dsimp only;omega) (by dsimp only;omega);obtain ⟨q,hq⟩:∃q,Ug t fs ⟨X,ms⟩=q:=⟨_,rfl⟩;rw [hq] at C1 C2;obtain ⟨ww,hww⟩:∃ww,Hm t fs ⟨X,ms⟩=ww:=⟨_,rfl⟩;rw [hww] at C3 C4 CE hwl;clear hq hww;have hTB:List.take X.length X=X:=List.take_length;have hTM:List.take ms.length ms=ms:=List.take_length;(have fa:=(And.intro hTB (And.intro hTM (And.intro @Ay @bne_self_eq_false.{0})));(repeat' first | refine zO CC ?_ | refine zS C1 ?_ | refine zS C2 ?_ | refine zS C3 ?_ | refine zS C4 ?_ | refine zS CE ?_ | refine zS CS ?_ | refine zQ ?_ | (refine zN ?_;intro K hC hK) | (refine zM ?_;try clear hK hC K) | (refine zC ?_ ?_<;>intro hb) | (refine zK ?_;intro Jo JU JC AH AJ AG))<;>(try clear fa))
   exact hJ _ (by omega) (by (have fa:=(And.intro hTB hTM);exact zV))
  ·
   have hS:FM t fs ⟨R,ms⟩:=⟨by first | assumption | exact hl1 | exact hfs1,by omega,by omega,by dsimp only;omega,by dsimp only;omega⟩;have CC:=Ej ⟨R,ms⟩ (by dsimp only;omega) (by dsimp only;omega);have C1:=Fw hS;have C2:=G4 hS;have C3:=GK hS;have C4:=GC hS;have hwl:=Il t fs ⟨R,ms⟩;dsimp only at hwl CC;have CE:=Hs (Hm t fs ⟨R,ms⟩) (by omega);have CS:=Fp ⟨R,ms⟩ (by dsimp only;omega) (by dsimp only;omega);obtain ⟨q,hq⟩:∃q,Ug t fs ⟨R,ms⟩=q:=⟨_,rfl⟩;rw [hq] at C1 C2;obtain ⟨ww,hww⟩:∃ww,Hm t fs ⟨R,ms⟩=ww:=⟨_,rfl⟩;rw [hww] at C3 C4 CE hwl;clear hq hww;have hTB:List.take R.length R=R:=List.take_length;have hTM:List.take ms.length ms=ms:=List.take_length;(have fa:=(And.intro hTB (And.intro hTM (And.intro @Ay @bne_self_eq_false.{0})));(repeat' first | refine zO CC ?_ | refine zS C1 ?_ | refine zS C2 ?_ | refine zS C3 ?_ | refine zS C4 ?_ | refine zS CE ?_ | refine zS CS ?_ | refine zQ ?_ | (refine zN ?_;intro K hC hK) | (refine zM ?_;try clear hK hC K) | (refine zC ?_ ?_<;>intro hb) | (refine zK ?_;intro Jo JU JC AH AJ AG))<;>(try clear fa))
   exact hJ _ (by omega) (by (have fa:=(And.intro hTB hTM);exact zV))
  ·
   have hS:FM t l ⟨R,ms⟩:=⟨by first | assumption | exact hl1 | exact hfs1,by omega,by omega,by dsimp only;omega,by dsimp only;omega⟩;have CC:=Ej ⟨R,ms⟩ (by dsimp only;omega) (by dsimp only;omega);have C1:=Fw hS;have C2:=G4 hS;have C3:=GK hS;have C4:=GC hS;have hwl:=Il t l ⟨R,ms⟩;dsimp only at hwl CC;have CE:=Hs (Hm t l ⟨R,ms⟩) (by omega);have CS:=Fp ⟨R,ms⟩ (by dsimp only;omega) (by dsimp only;omega);obtain ⟨q,hq⟩:∃q,Ug t l ⟨R,ms⟩=q:=⟨_,rfl⟩;rw [hq] at C1 C2;obtain ⟨ww,hww⟩:∃ww,Hm t l ⟨R,ms⟩=ww:=⟨_,rfl⟩;rw [hww] at C3 C4 CE hwl;clear hq hww;have hTB:List.take R.length R=R:=List.take_length;have hTM:List.take ms.length ms=ms:=List.take_length;(have fa:=(And.intro hTB (And.intro hTM (And.intro @Ay @bne_self_eq_false.{0})));(repeat' first | refine zO CC ?_ | refine zS C1 ?_ | refine zS C2 ?_ | refine zS C3 ?_ | refine zS C4 ?_ | refine zS CE ?_ | refine zS CS ?_ | refine zQ ?_ | (refine zN ?_;intro K hC hK) | (refine zM ?_;try clear hK hC K) | (refine zC ?_ ?_<;>intro hb) | (refine zK ?_;intro Jo JU JC AH AJ AG))<;>(try clear fa))
   exact hJ _ (by omega) (by (have fa:=(And.intro hTB hTM);exact zV))
  ·(repeat' first | refine zS Gy ?_ | refine zQ ?_ | (refine zN ?_;intro K hC hK) | (refine zM ?_;try clear hK hC K) | (refine zC ?_ ?_<;>intro hb) | (refine zK ?_;intro Jo JU JC AH AJ AG))
   refine Aa [] ?_ ?_<;>(first | exact AK | refine zE ?_)
theorem Ny (v0:Value) (s:AL) (v1:Value) (l:List Fm) (v2:Value) (h:Hd) (v3:Value) (nums:List Int) (W:World) (w0:F5 W v0 s) (_x0:QN s) (w1:OY W v1 l) (w2:SK W v2 h) (w3:BO W v3 nums) (_x3:∀z∈nums,(Lit.int .i64 z).wf=true) :
  Calls Tryz.prog 5 #[v0,v1,v2,v3] W (OF W (.bool true)):=by
 refine T0 (SN s l h nums (NA w3)) ⟨rfl,fun i x y hx hy=> ?_⟩;match i,hx,hy with
 | 0,hx,hy=>simp at hx hy;subst hx hy;exact No w0
 | 1,hx,hy=>simp at hx hy;subst hx hy;exact Ns w1
 | 2,hx,hy=>simp at hx hy;subst hx hy;exact OO w2
 | 3,hx,hy=>simp at hx hy;subst hx hy;exact ER w3
 | n+4,hx,hy=>simp at hx
end Go.Proofs.YthblfhgofopcaaaGreat
