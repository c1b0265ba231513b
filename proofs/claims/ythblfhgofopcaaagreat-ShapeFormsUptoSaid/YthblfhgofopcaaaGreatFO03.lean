/-
  Parts of the proof: SplX, OrdV, ConS.
-/
import Derived.Test.YthblfhgofopcaaaGreatFO01
import Derived.Test.YthblfhgofopcaaaGreatFO02
import Derived.Test.YthblfhgofopcaaaGreatSH13
import Derived.Test.YthblfhgofopcaaaGreatSH14
import Derived.Test.YthblfhgofopcaaaGreatSH21
set_option linter.all false
namespace Go.Proofs.YthblfhgofopcaaaGreat
open Go.RowKit
set_option maxRecDepth 100000
structure Sx where
 left:List Int
 pd:Bool
 so:List Gp
 junk:List Gp
 gs:Nat
 go:Nat
def AA:AV:= .clo 158 [.ref 1 0 0 0, .ref 2 0 0 0, .ref 3 0 0 0, .ref 4 0 0 0, .ref 5 0 0 0, .ref 6 0 0 0, .ref 0 0 0 0]
def AF:AV:= .clo 157 [.ref 0 0 0 0, .ref 1 0 0 0, .ref 4 0 0 0]
def Ae:AV:= .clo 160 [.ref 5 0 0 0, .ref 10 0 0 0]
theorem ME {X:List Int} {ks:List Int} (hk:D8 X.length ks):A5 (Ah X ks) ks=X:=by
 refine List.ext_getElem (by rw [Bp,Bn]) fun i h1 h2=> ?_
 have h3:=CY ks (Ah X ks) (by rw [Bn];exact hk) i;have h4:=BF ks X hk i;rw [h4] at h3;have e1:(A5 (Ah X ks) ks).getD i 0=(A5 (Ah X ks) ks)[i]:=by simp [List.getD_eq_getElem?_getD,h1]
 have e2:X.getD i 0=X[i]:=by simp [List.getD_eq_getElem?_getD,h2]
 rw [e1,e2] at h3;omega
set_option maxHeartbeats 2000000
theorem OK (g:Nat) (l:List Gp) (h0:0<l.length) (h1:l.length≤1000000) (hc:Cl l):D3 Tryz.prog 177 [.rsl 0 g 0 l.length, .clo 178 []] [(0, .arr g 3 (l.map AZ))] (.v (.tuple #[])) [(0, .arr g 3 ((CX l).map AZ))]:=by
 refine EE (VW g l h0 h1) ?_;rintro x hl ⟨rfl,l',hp,hs,rfl⟩;have:l' =CX l:=Rf hp hs fun g hg=>hc g hg
 rw [this];exact ⟨rfl,rfl⟩
theorem Rk (l:List Gp) (h0:0<l.length) (h1:l.length≤1000000) (hc:Cl l):Je Tryz.prog 159 [AX false l] (.rsl 0 1 0 l.length) [(0, .arr 1 3 ((CX l).map AZ))]:=by
 have CO:=GU l h1;have CS:=OK 1 l h0 h1 hc;refine zb Tryz.ntmps159 ?_;let tb:=UA;let lv:=Q4;(repeat' first|refine zO CO ?_|refine zJ (tg [32]) CS ?_|refine zQ ?_|refine zN ?_;intro K hC hK|refine zM ?_;try clear hK hC K|refine zC ?_ ?_<;>intro hb|refine zK ?_;intro Jo JU JC AH AJ AG)
 refine Aa [(32,0)] ?_ ?_<;>(first|exact AK|refine zE ?_)
theorem Jw (l:List Gp) (h0:0<l.length) (h1:l.length≤1000000) (hc:Cl l):AM Tryz.prog 159 [AX false l] (AX true (CX l)):=by
 have CO:=GU l h1;have CS:=OK 1 l h0 h1 hc;have hl:(CX l).length=l.length:=(BV l).length_eq;have hT:(CX l).take l.length=CX l:=by rw [←hl,List.take_length]
 have hL:l.length≤(CX l).length:=by omega
 refine zb Tryz.ntmps159 ?_;let tb:=UA;let lv:=Q4;(repeat' first|refine zO CO ?_|refine zJ (tg [32]) CS ?_|refine zQ ?_|refine zN ?_;intro K hC hK|refine zM ?_;try clear hK hC K|refine zC ?_ ?_<;>intro hb|refine zK ?_;intro Jo JU JC AH AJ AG)
 refine Aa [] ?_ ?_<;>(have fa:=(And.intro hT hL);first|exact AK|(refine zE ?_;try clear fa))
end Go.Proofs.YthblfhgofopcaaaGreat

namespace Go.Proofs.YthblfhgofopcaaaGreat
end Go.Proofs.YthblfhgofopcaaaGreat
