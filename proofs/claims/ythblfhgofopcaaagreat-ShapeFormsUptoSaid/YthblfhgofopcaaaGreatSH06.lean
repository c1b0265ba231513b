/-
  Parts of the proof: VmL, VmM.
-/
import Derived.Test.YthblfhgofopcaaaGreatSH05
set_option linter.all false
namespace Go.Proofs.YthblfhgofopcaaaGreat
open Go.RowKit
variable [DM]
mutual
def AV.low:AV→AV
 | .any=> .any
 | .v x=> .v x
 | .agg l=> .agg (lowL l)
 | .tup l=> .tup (lowL l)
 | .sl _ sz es=> .sl false sz (lowL es)
 | .isp _ sz es i j=> .isp false sz (lowL es) i j
 | .ref _ _ _ _=> .any
 | .rsl _ _ _ _=> .any
 | .clo f l=> .clo f (lowL l)
def lowL:List AV→List AV
 | []=>[]
 | x::l=>x.low::lowL l
end
mutual
def AV.pass (inv:Nat→Option Nat) (h:HF):AV→AV
 | .any=> .any
 | .v x=> .v x
 | .agg l=> .agg (passL inv h l)
 | .tup l=> .tup (passL inv h l)
 | .sl _ sz es=> .sl false sz (passL inv h es)
 | .isp _ sz es i j=> .isp false sz (passL inv h es) i j
 | .ref r g k j=>match inv r with
  | some i=> .ref i g k j
  | none=> .any
 | .rsl r g o n=>match inv r with
  | some i=> .rsl i g o n
  | none=>match h r with
   | .arr g' sz es=>if g' =g∧o+n≤es.length then .sl false sz (lowL ((es.drop o).take n)) else .any
   | _=> .any
 | .clo f l=> .clo f (passL inv h l)
def passL (inv:Nat→Option Nat) (h:HF):List AV→List AV
 | []=>[]
 | x::l=>x.pass inv h::passL inv h l
end
mutual
def AV.nob (inv:Nat→Option Nat):AV→Bool
 | .any=>true
 | .v _=>true
 | .agg l=>nobL inv l
 | .tup l=>nobL inv l
 | .sl _ _ es=>nobL inv es
 | .isp _ _ es _ _=>nobL inv es
 | .ref _ _ _ _=>true
 | .rsl r _ _ _=>(inv r).isSome
 | .clo _ l=>nobL inv l
def nobL (inv:Nat→Option Nat):List AV→Bool
 | []=>true
 | x::l=>x.nob inv&&nobL inv l
end
mutual
def AV.ren (ρ:Nat→Nat):AV→AV
 | .any=> .any
 | .v x=> .v x
 | .agg l=> .agg (renL ρ l)
 | .tup l=> .tup (renL ρ l)
 | .sl f sz es=> .sl f sz (renL ρ es)
 | .isp f sz es i j=> .isp f sz (renL ρ es) i j
 | .ref r g k j=> .ref (ρ r) g k j
 | .rsl r g o n=> .rsl (ρ r) g o n
 | .clo f l=> .clo f (renL ρ l)
def renL (ρ:Nat→Nat):List AV→List AV
 | []=>[]
 | x::l=>x.ren ρ::renL ρ l
end
mutual
def AV.allT:AV→Bool
 | .any=>true
 | .v _=>true
 | .agg l=>allTL l
 | .tup l=>allTL l
 | .sl f _ es=>f&&allTL es
 | .isp f _ es _ _=>f&&allTL es
 | .ref _ _ _ _=>true
 | .rsl _ _ _ _=>true
 | .clo _ l=>allTL l
def allTL:List AV→Bool
 | []=>true
 | x::l=>x.allT&&allTL l
end
theorem BQ (l:List AV):lowL l=l.map AV.low:=by
 induction l with
 | nil=>rfl
 | cons x l ih=>simp only [lowL,ih,List.map_cons]
theorem BM (inv:Nat→Option Nat) (h:HF) (l:List AV):passL inv h l=l.map (AV.pass inv h):=by
 induction l with
 | nil=>rfl
 | cons x l ih=>simp only [passL,ih,List.map_cons]
theorem B0 (ρ:Nat→Nat) (l:List AV):renL ρ l=l.map (AV.ren ρ):=by
 induction l with
 | nil=>rfl
 | cons x l ih=>simp only [renL,ih,List.map_cons]
theorem FI (inv:Nat→Option Nat) (l:List AV):nobL inv l=true↔∀x∈l,x.nob inv=true:=by
 induction l with
 | nil=>simp [nobL]
 | cons x l ih=>simp [nobL,ih]
theorem Ew (l:List AV):allTL l=true↔∀x∈l,x.allT=true:=by
 induction l with
 | nil=>simp [allTL]
 | cons x l ih=>simp [allTL,ih]
theorem G7 (x:AV):x.low.cs=x.cs.map AV.low:=by
 cases x<;>simp [AV.low,AV.cs,BQ]
theorem GO (inv:Nat→Option Nat) (h:HF) (x:AV):(x.pass inv h).cs=x.cs.map (AV.pass inv h):=by
 cases x with
 | agg l=>simp [AV.pass,AV.cs,BM]
 | ref r g k j=>cases hi:inv r<;>simp [AV.pass,AV.cs,hi]
 | rsl r g o n =>
  cases hi:inv r with
  | some i=>simp [AV.pass,AV.cs,hi]
  | none =>
   cases hr:h r with
   | arr g' sz es=>by_cases hc:g' =g∧o+n≤es.length<;>simp [AV.pass,AV.cs,hi,hr,hc]
   | _=>simp [AV.pass,AV.cs,hi,hr]
 | _=>simp [AV.pass,AV.cs]
theorem IM (ρ:Nat→Nat) (x:AV):(x.ren ρ).cs=x.cs.map (AV.ren ρ):=by
 cases x<;>simp [AV.ren,AV.cs,B0]
theorem map_some {α β:Type} {f:α→β} {l:List α} {i:Nat} {y:β} (h:(l.map f)[i]? =some y):∃x,l[i]? =some x∧f x=y:=by
 simpa [List.getElem?_map,Option.map_eq_some_iff] using h
theorem Se {inv:Nat→Option Nat} {x u:AV} (h:x.nob inv=true) (hu:u∈x.cs):u.nob inv=true:=by
 cases x with
 | agg l=>simp only [AV.nob,FI] at h;exact h u hu
 | _=>simp only [AV.cs,List.mem_singleton] at hu;subst hu;exact h
theorem PG {x u:AV} (h:x.allT=true) (hu:u∈x.cs):u.allT=true:=by
 cases x with
 | agg l=>simp only [AV.allT,Ew] at h;exact h u hu
 | _=>simp only [AV.cs,List.mem_singleton] at hu;subst hu;exact h
theorem AS.low {c c1:Cx} {h h1:HF} (hw:c1.w=c.w) (hs:∀f b,Dx c h f b→Dx c1 h1 false b) {x:AV} {y:Value} (k:AS c h x y):AS c1 h1 x.low y:=by
 induction k with
 | any y=>exact .any y
 | v x=>exact .v x
 | agg l ys hl _ ih =>
  refine .agg _ _ (by simp [BQ,hl]) fun i x y hx hy=> ?_
  rw [BQ] at hx;obtain ⟨x',hx',rfl⟩:=map_some hx;exact ih i x' y hx' hy
 | tup l ys hl _ ih =>
  refine .tup _ _ (by simp [BQ,hl]) fun i x y hx hy=> ?_
  rw [BQ] at hx;obtain ⟨x',hx',rfl⟩:=map_some hx;exact ih i x' y hx' hy
 | slE f sz A cap hc=>exact .slE _ _ _ _ hc
 | sl f sz es b o cap ys k1 k2 k3 k4 k5 k6 ih =>
  have e1:(lowL es).length=es.length:=by simp [BQ]
  have:=AS.sl (c:=c1) (h:=h1) false sz (lowL es) b o cap ys (by rw [e1];exact k1) k2 (hs f b k3) (fun i e he=>by
   rw [BQ] at he
   obtain ⟨e',he',rfl⟩:=map_some he
   rw [G7,List.length_map];exact k4 i e' he') (fun i e j u he hj=>by
   rw [BQ] at he
   obtain ⟨e',he',rfl⟩:=map_some he
   rw [G7] at hj
   obtain ⟨u',hu',rfl⟩:=map_some hj
   rw [hw];exact k5 i e' j u' he' hu') (fun i e j u he hj=>by
   rw [BQ] at he
   obtain ⟨e',he',rfl⟩:=map_some he
   rw [G7] at hj
   obtain ⟨u',hu',rfl⟩:=map_some hj
   exact ih i e' j u' he' hu')
  rw [e1] at this;exact this
 | isp f sz es k m b o ys k3 k4 k5 k6 ih =>
  exact AS.isp (c:=c1) (h:=h1) false sz (lowL es) k m b o ys (hs f b k3) (fun i e he=>by
   rw [BQ] at he
   obtain ⟨e',he',rfl⟩:=map_some he
   rw [G7,List.length_map];exact k4 i e' he') (fun i e j u he hj=>by
   rw [BQ] at he
   obtain ⟨e',he',rfl⟩:=map_some he
   rw [G7] at hj
   obtain ⟨u',hu',rfl⟩:=map_some hj
   rw [hw];exact k5 i e' j u' he' hu') (fun i e j u he hj=>by
   rw [BQ] at he
   obtain ⟨e',he',rfl⟩:=map_some he
   rw [G7] at hj
   obtain ⟨u',hu',rfl⟩:=map_some hj
   exact ih i e' j u' he' hu')
 | ref=>exact .any _
 | rsl=>exact .any _
 | clo f l ys hl _ ih =>
  refine .clo _ _ _ (by simp [BQ,hl]) fun i x y hx hy=> ?_
  rw [BQ] at hx;obtain ⟨x',hx',rfl⟩:=map_some hx;exact ih i x' y hx' hy
structure kV (c:Cx) (h:HF) (c1:Cx) (h1:HF) (inv:Nat→Option Nat):Prop where
 w:c1.w=c.w
 st:∀f b,Dx c h f b→Dx c1 h1 false b
 ar:∀r i g sz es,inv r=some i→h r= .arr g sz es→∃es',h1 i= .arr g sz es'
 dd:∀r i,inv r=some i→h r= .dead→h1 i= .dead
 bl:∀r i,inv r=some i→c1.bl i=c.bl r∧c1.rl i=c.rl r
theorem AS.pass {c c1:Cx} {h h1:HF} {inv:Nat→Option Nat} (V:kV c h c1 h1 inv) (hh:BH c h) {x:AV} {y:Value} (k:AS c h x y)
  (hb:(∀r g sz es,inv r=none→h r= .arr g sz es→c.rl r=true→Dx c1 h1 false (c.bl r))∨x.nob inv=true):AS c1 h1 (x.pass inv h) y:=by
 have hw:=V.w;induction k with
 | any y=>exact .any y
 | v x=>exact .v x
 | agg l ys hl _ ih =>
  refine .agg _ _ (by simp [BM,hl]) fun i x y hx hy=> ?_
  rw [BM] at hx;obtain ⟨x',hx',rfl⟩:=map_some hx;exact ih i x' y hx' hy (hb.imp id fun hn=>by simp only [AV.nob,FI] at hn;exact hn _ (List.mem_of_getElem? hx'))
 | tup l ys hl _ ih =>
  refine .tup _ _ (by simp [BM,hl]) fun i x y hx hy=> ?_
  rw [BM] at hx;obtain ⟨x',hx',rfl⟩:=map_some hx;exact ih i x' y hx' hy (hb.imp id fun hn=>by simp only [AV.nob,FI] at hn;exact hn _ (List.mem_of_getElem? hx'))
 | slE f sz A cap hc=>exact .slE _ _ _ _ hc
 | sl f sz es b o cap ys k1 k2 k3 k4 k5 k6 ih =>
  have e1:(passL inv h es).length=es.length:=by simp [BM]
  have:=AS.sl (c:=c1) (h:=h1) false sz (passL inv h es) b o cap ys (by rw [e1];exact k1) k2 (V.st f b k3) (fun i e he=>by
   rw [BM] at he
   obtain ⟨e',he',rfl⟩:=map_some he
   rw [GO,List.length_map];exact k4 i e' he') (fun i e j u he hj=>by
   rw [BM] at he
   obtain ⟨e',he',rfl⟩:=map_some he
   rw [GO] at hj
   obtain ⟨u',hu',rfl⟩:=map_some hj
   rw [hw];exact k5 i e' j u' he' hu') (fun i e j u he hj=>by
   rw [BM] at he
   obtain ⟨e',he',rfl⟩:=map_some he
   rw [GO] at hj
   obtain ⟨u',hu',rfl⟩:=map_some hj
   exact ih i e' j u' he' hu' (hb.imp id fun hn=>by simp only [AV.nob,FI] at hn;exact Se (hn _ (List.mem_of_getElem? he')) (List.mem_of_getElem? hu')))
  rw [e1] at this;exact this
 | isp f sz es k m b o ys k3 k4 k5 k6 ih =>
  exact AS.isp (c:=c1) (h:=h1) false sz (passL inv h es) k m b o ys (V.st f b k3) (fun i e he=>by
   rw [BM] at he
   obtain ⟨e',he',rfl⟩:=map_some he
   rw [GO,List.length_map];exact k4 i e' he') (fun i e j u he hj=>by
   rw [BM] at he
   obtain ⟨e',he',rfl⟩:=map_some he
   rw [GO] at hj
   obtain ⟨u',hu',rfl⟩:=map_some hj
   rw [hw];exact k5 i e' j u' he' hu') (fun i e j u he hj=>by
   rw [BM] at he
   obtain ⟨e',he',rfl⟩:=map_some he
   rw [GO] at hj
   obtain ⟨u',hu',rfl⟩:=map_some hj
   exact ih i e' j u' he' hu' (hb.imp id fun hn=>by simp only [AV.nob,FI] at hn;exact Se (hn _ (List.mem_of_getElem? he')) (List.mem_of_getElem? hu')))
 | ref r g k j y h1' hg =>
  simp only [AV.pass];split
  ·rename_i i hi;refine .ref _ _ _ _ _ h1' ?_;unfold Lg at hg ⊢;cases hr:h r with
   | nil=>rw [hr] at hg;exact hg.elim
   | dead=>rw [V.dd r i hi hr];trivial
   | arr g' sz es =>
    rw [hr] at hg;obtain ⟨es',he⟩:=V.ar r i g' sz es hi hr;rw [he];exact ⟨hg.1,fun e=>by rw [(V.bl r i hi).1];exact hg.2 e⟩
  ·exact .any _
 | rsl r g o n y h1' hg =>
  simp only [AV.pass];split
  ·rename_i i hi;refine .rsl _ _ _ _ _ h1' ?_;unfold Lg at hg ⊢;cases hr:h r with
   | nil=>rw [hr] at hg;exact hg.elim
   | dead=>rw [V.dd r i hi hr];trivial
   | arr g' sz es =>
    rw [hr] at hg;obtain ⟨es',he⟩:=V.ar r i g' sz es hi hr;rw [he];refine ⟨hg.1,fun e=> ?_⟩;obtain ⟨A,cap,q1,q2,q3,q4⟩:=hg.2 e;obtain ⟨b1,b2⟩:=V.bl r i hi;exact ⟨A,cap,q1,q2,q3,fun h0=>by rw [b1,b2,hw];exact q4 h0⟩
  ·rename_i hi;split
   ·rename_i g' sz es hr;split
    ·rename_i hc;obtain ⟨rfl,hle⟩:=hc;rw [hr] at hg;obtain ⟨A,cap,rfl,q2,q3,q4⟩:=hg.2 rfl;have hb' :=hb.resolve_right (by simp [AV.nob,hi]);have hlen:((es.drop o).take n).length=n:=by simp;omega
     by_cases h0:n=0
     ·subst h0;simp only [List.take_zero];exact .slE _ _ _ _ q3
     ·obtain ⟨j1,rfl,_⟩:=q4 (by omega);obtain ⟨cs,ty,a1,a2,a3,a4⟩:=hh.ar r g' sz es hr j1;have key:∀(i:Nat) (e:AV),((es.drop o).take n)[i]? =some e→es[o+i]? =some e:=fun i e he=>by
       rw [List.getElem?_take] at he;split at he
       ·rwa [List.getElem?_drop] at he
       ·cases he
      have e1:(lowL ((es.drop o).take n)).length=n:=by rw [BQ,List.length_map];exact hlen
      have:=AS.sl (c:=c1) (h:=h1) false sz (lowL ((es.drop o).take n)) (c.bl r) (o*sz) cap (fun i j=>cs[(o+i)*sz+j]?.getD undef) (by rw [e1];exact q2) q3 (hb' r g' sz es hi hr j1) (fun i e he=>by
       rw [BQ] at he
       obtain ⟨e',he',rfl⟩:=map_some he
       rw [G7,List.length_map];exact a3 _ e' (key i e' he')) (fun i e j u he hj=>by
       rw [BQ] at he
       obtain ⟨e',he',rfl⟩:=map_some he
       rw [G7] at hj
       obtain ⟨u',hu',rfl⟩:=map_some hj
       obtain ⟨v,hv,_⟩:=a4 _ e' j u' (key i e' he') hu'
       rw [hw,cell_of_row c.w _ _ cs ty (0,0) a1,show o*sz+i*sz+j=(o+i)*sz+j by rw [Nat.add_mul],hv]
       rfl) (fun i e j u he hj=>by
       rw [BQ] at he
       obtain ⟨e',he',rfl⟩:=map_some he
       rw [G7] at hj
       obtain ⟨u',hu',rfl⟩:=map_some hj
       obtain ⟨v,hv,hrel⟩:=a4 _ e' j u' (key i e' he') hu'
       show AS c1 h1 u'.low (cs[(o+i)*sz+j]?.getD undef)
       rw [hv]
       exact hrel.low hw V.st)
      rw [e1] at this;exact this
    ·exact .any _
   ·exact .any _
 | clo f l ys hl _ ih =>
  refine .clo _ _ _ (by simp [BM,hl]) fun i x y hx hy=> ?_
  rw [BM] at hx;obtain ⟨x',hx',rfl⟩:=map_some hx;exact ih i x' y hx' hy (hb.imp id fun hn=>by simp only [AV.nob,FI] at hn;exact hn _ (List.mem_of_getElem? hx'))
def PO (ρ:Nat→Nat):Ob→Ob
 | .nil=> .nil
 | .dead=> .dead
 | .arr g sz es=> .arr g sz (renL ρ es)
theorem AS.up {c c1:Cx} {h h1:HF} {ρ:Nat→Nat} (hw:c1.w=c.w) (hT:∀b,Dx c1 h1 true b→Dx c h true b) (ho:∀i,h1 i≠ .nil→h (ρ i)=PO ρ (h1 i)∧c.bl (ρ i)=c1.bl i∧c.rl (ρ i)=c1.rl i)
  {x:AV} {y:Value} (k:AS c1 h1 x y) (hF:(∀b,Dx c1 h1 false b→Dx c h false b)∨x.allT=true):AS c h (x.ren ρ) y:=by
 induction k with
 | any y=>exact .any y
 | v x=>exact .v x
 | agg l ys hl _ ih =>
  refine .agg _ _ (by simp [B0,hl]) fun i x y hx hy=> ?_
  rw [B0] at hx;obtain ⟨x',hx',rfl⟩:=map_some hx;exact ih i x' y hx' hy (hF.imp id fun hn=>by simp only [AV.allT,Ew] at hn;exact hn _ (List.mem_of_getElem? hx'))
 | tup l ys hl _ ih =>
  refine .tup _ _ (by simp [B0,hl]) fun i x y hx hy=> ?_
  rw [B0] at hx;obtain ⟨x',hx',rfl⟩:=map_some hx;exact ih i x' y hx' hy (hF.imp id fun hn=>by simp only [AV.allT,Ew] at hn;exact hn _ (List.mem_of_getElem? hx'))
 | slE f sz A cap hc=>exact .slE _ _ _ _ hc
 | sl f sz es b o cap ys k1 k2 k3 k4 k5 k6 ih =>
  have e1:(renL ρ es).length=es.length:=by simp [B0]
  have hst:Dx c h f b:=by
   rcases hF with h1' | h1'
   ·cases f
    ·exact h1' b k3
    ·exact hT b k3
   ·simp only [AV.allT,Bool.and_eq_true] at h1';rw [h1'.1] at k3 ⊢;exact hT b k3
  have:=AS.sl (c:=c) (h:=h) f sz (renL ρ es) b o cap ys (by rw [e1];exact k1) k2 hst (fun i e he=>by
   rw [B0] at he
   obtain ⟨e',he',rfl⟩:=map_some he
   rw [IM,List.length_map];exact k4 i e' he') (fun i e j u he hj=>by
   rw [B0] at he
   obtain ⟨e',he',rfl⟩:=map_some he
   rw [IM] at hj
   obtain ⟨u',hu',rfl⟩:=map_some hj
   rw [←hw];exact k5 i e' j u' he' hu') (fun i e j u he hj=>by
   rw [B0] at he
   obtain ⟨e',he',rfl⟩:=map_some he
   rw [IM] at hj
   obtain ⟨u',hu',rfl⟩:=map_some hj
   exact ih i e' j u' he' hu' (hF.imp id fun hn=>by simp only [AV.allT,Bool.and_eq_true,Ew] at hn;exact PG (hn.2 _ (List.mem_of_getElem? he')) (List.mem_of_getElem? hu')))
  rw [e1] at this;exact this
 | isp f sz es k m b o ys k3 k4 k5 k6 ih =>
  have hst:Dx c h f b:=by
   rcases hF with h1' | h1'
   ·cases f
    ·exact h1' b k3
    ·exact hT b k3
   ·simp only [AV.allT,Bool.and_eq_true] at h1';rw [h1'.1] at k3 ⊢;exact hT b k3
  exact AS.isp (c:=c) (h:=h) f sz (renL ρ es) k m b o ys hst (fun i e he=>by
   rw [B0] at he
   obtain ⟨e',he',rfl⟩:=map_some he
   rw [IM,List.length_map];exact k4 i e' he') (fun i e j u he hj=>by
   rw [B0] at he
   obtain ⟨e',he',rfl⟩:=map_some he
   rw [IM] at hj
   obtain ⟨u',hu',rfl⟩:=map_some hj
   rw [←hw];exact k5 i e' j u' he' hu') (fun i e j u he hj=>by
   rw [B0] at he
   obtain ⟨e',he',rfl⟩:=map_some he
   rw [IM] at hj
   obtain ⟨u',hu',rfl⟩:=map_some hj
   exact ih i e' j u' he' hu' (hF.imp id fun hn=>by simp only [AV.allT,Bool.and_eq_true,Ew] at hn;exact PG (hn.2 _ (List.mem_of_getElem? he')) (List.mem_of_getElem? hu')))
 | ref r g k j y h1' hg =>
  refine .ref _ _ _ _ _ h1' ?_;have hne:h1 r≠ .nil:=fun he=>by rw [he] at hg;exact hg
  obtain ⟨e1,e2,e3⟩:=ho r hne;unfold Lg at hg ⊢;cases hr:h1 r with
  | nil=>exact absurd hr hne
  | dead=>rw [e1,hr];trivial
  | arr g' sz es =>
   rw [hr] at hg;rw [e1,hr];exact ⟨hg.1,fun e=>by rw [e2];exact hg.2 e⟩
 | rsl r g o n y h1' hg =>
  refine .rsl _ _ _ _ _ h1' ?_;have hne:h1 r≠ .nil:=fun he=>by rw [he] at hg;exact hg
  obtain ⟨e1,e2,e3⟩:=ho r hne;unfold Lg at hg ⊢;cases hr:h1 r with
  | nil=>exact absurd hr hne
  | dead=>rw [e1,hr];trivial
  | arr g' sz es =>
   rw [hr] at hg;rw [e1,hr];refine ⟨hg.1,fun e=> ?_⟩;obtain ⟨A,cap,q1,q2,q3,q4⟩:=hg.2 e;exact ⟨A,cap,q1,q2,q3,fun h0=>by rw [e2,e3,←hw];exact q4 h0⟩
 | clo f l ys hl _ ih =>
  refine .clo _ _ _ (by simp [B0,hl]) fun i x y hx hy=> ?_
  rw [B0] at hx;obtain ⟨x',hx',rfl⟩:=map_some hx;exact ih i x' y hx' hy (hF.imp id fun hn=>by simp only [AV.allT,Ew] at hn;exact hn _ (List.mem_of_getElem? hx'))
end Go.Proofs.YthblfhgofopcaaaGreat

namespace Go.Proofs.YthblfhgofopcaaaGreat
open Go.RowKit
variable [DM]
def lk {β:Type}:List (Nat×β)→β→Nat→β
 | [],d,_=>d
 | p::l,d,t=>if p.1=t then p.2 else lk l d t
def Ci {β:Type}:List (Nat×β)→Nat→β→List (Nat×β)
 | [],t,x=>[(t,x)]
 | p::l,t,x=>if p.1=t then (t,x)::l else p::Ci l t x
theorem GV {β:Type} (l:List (Nat×β)) (d:β) (t:Nat) (x:β) (s:Nat):lk (Ci l t x) d s=if t=s then x else lk l d s:=by
 induction l with
 | nil=>simp [Ci,lk]
 | cons p l ih =>
  simp only [Ci];by_cases h1:p.1=t
  ·rw [if_pos h1];simp only [lk];by_cases h2:t=s
   ·rw [if_pos h2,if_pos h2]
   ·rw [if_neg h2,if_neg h2,if_neg (by omega)]
  ·rw [if_neg h1];simp only [lk,ih];by_cases h2:p.1=s
   ·rw [if_pos h2,if_pos h2,if_neg (by omega)]
   ·rw [if_neg h2,if_neg h2]
theorem Sj {l:List (Nat×Ob)} {i:Nat} (h:lk l .nil i≠ .nil):(i,lk l .nil i)∈l:=by
 induction l with
 | nil=>exact absurd rfl h
 | cons p l ih =>
  simp only [lk] at h ⊢;by_cases h1:p.1=i
  ·rw [if_pos h1];subst h1;exact List.mem_cons_self
  ·rw [if_neg h1] at h ⊢;exact List.mem_cons_of_mem _ (ih h)
theorem gQ {l:List (Nat×Ob)} (hn:(l.map (·.1)).Nodup) {p:Nat×Ob} (h:p∈l):lk l .nil p.1=p.2:=by
 induction l with
 | nil=>cases h
 | cons q l ih =>
  rw [List.map_cons,List.nodup_cons] at hn;simp only [lk];rcases List.mem_cons.1 h with rfl | h
  ·rw [if_pos rfl]
  ·rw [if_neg (fun he:q.1=p.1=>hn.1 (by rw [he];exact List.mem_map_of_mem (f:=(·.1)) h)),ih hn.2 h]
abbrev Hl:=List (Nat×Ob)
def QX (c:Cx) (h:HF) (xs:List AV) (vals:Array Value):Prop:=vals.size=xs.length∧∀(i:Nat) (u:AV) (v:Value),xs[i]? =some u→vals[i]? =some v→AS c h u v
def Bb (P:Program) (f:Nat) (ys:List AV) (hc:Hl) (R:AV→Hl→Prop):Prop :=
 qX P f∧∀(c:Cx) (vals:Array Value),c.n0=c.w.heap.size→BH c (lk hc .nil)→QX c (lk hc .nil) ys vals→
  Calls P f vals c.w fun e w' =>∃v x hl c',e= .returned v∧c'.w=w' ∧R x hl∧Bj c (lk hc .nil) c' (lk hl .nil)∧BH c' (lk hl .nil)∧AS c' (lk hl .nil) x v
def LG (inv:Nat→Option Nat) (h:HF):Ob→Ob
 | .arr g sz es=> .arr g sz (passL inv h es)
 | o=>o
def E7:Nat→List Nat→Nat→Option Nat
 | _,[],_=>none
 | i,s::ρ,r=>if s=r then some i else E7 (i+1) ρ r
def D5 (inv:Nat→Option Nat) (h:HF):Nat→List Nat→Hl
 | _,[]=>[]
 | i,r::ρ=>(i,LG inv h (h r))::D5 inv h (i+1) ρ
def rn (base:Nat) (ρ:List Nat) (i:Nat):Nat:=(ρ[i]?).getD (base+i)
def Kd (q:Nat→Nat):Hl→HF→HF
 | [],h=>h
 | p::l,h=>fun r=>if q p.1=r then PO q p.2 else Kd q l h r
def HT (q:Nat→Nat):Hl→Hl→Hl
 | [],hp=>hp
 | p::l,hp=>Ci (HT q l hp) (q p.1) (PO q p.2)
theorem PB (q:Nat→Nat) (hl hp:Hl):lk (HT q hl hp) .nil=Kd q hl (lk hp .nil):=by
 induction hl with
 | nil=>rfl
 | cons p l ih=>funext r;simp only [HT,Kd,GV,ih]
def Yh:Ob→Bool
 | .arr _ _ es=>allTL es
 | _=>true
def FU (hl:Hl):Prop:=(hl.map (·.1)).Nodup∧∀p∈hl,p.2≠ .nil
theorem V7 {ρ:List Nat} {k r i:Nat} (h:E7 k ρ r=some i):k≤i∧ρ[i-k]? =some r:=by
 induction ρ generalizing k with
 | nil=>cases h
 | cons s ρ ih =>
  simp only [E7] at h;split at h
  ·rename_i hs;injection h with h
   subst h hs;exact ⟨Nat.le_refl _,by simp⟩
  ·obtain ⟨h1,h2⟩:=ih h;refine ⟨by omega,?_⟩;rw [show i-k=(i-(k+1))+1 by omega,List.getElem?_cons_succ];exact h2
theorem fX {ρ:List Nat} (hn:ρ.Nodup) {k r i:Nat} (h:ρ[i]? =some r):E7 k ρ r=some (k+i):=by
 induction ρ generalizing k i with
 | nil=>simp at h
 | cons s ρ ih =>
  rw [List.nodup_cons] at hn;simp only [E7];cases i with
  | zero=>simp at h;subst h;simp
  | succ i =>
   simp at h;rw [if_neg (fun he:s=r=>hn.1 (by rw [he];exact List.mem_of_getElem? h)),ih hn.2 h];congr 1;omega
theorem Qx (inv:Nat→Option Nat) (h:HF) (ρ:List Nat) (k i:Nat):lk (D5 inv h k ρ) .nil i=if k≤i then (match ρ[i-k]? with | some r=>LG inv h (h r) | none=> .nil) else .nil:=by
 induction ρ generalizing k with
 | nil=>simp [D5,lk]
 | cons s ρ ih =>
  simp only [D5,lk];by_cases h1:k=i
  ·subst h1;simp
  ·rw [if_neg h1,ih];by_cases h2:k≤i
   ·rw [if_pos h2,if_pos (show k+1≤i by omega),show i-k=(i-(k+1))+1 by omega,List.getElem?_cons_succ]
   ·rw [if_neg h2,if_neg (by omega)]
theorem eY {q:Nat→Nat} {hl:Hl} {h:HF} (hc:FU hl) (hq:∀p∈hl,∀p' ∈hl,q p.1=q p'.1→p.1=p'.1) {i:Nat} (hi:lk hl .nil i≠ .nil):Kd q hl h (q i)=PO q (lk hl .nil i):=by
 have hm:=Sj hi;generalize lk hl .nil i=ob at hm;clear hi;induction hl with
 | nil=>cases hm
 | cons p l ih =>
  obtain ⟨hn,hz⟩:=hc;simp only [Kd];rcases List.mem_cons.1 hm with rfl | hm'
  ·rw [if_pos rfl]
  ·rw [if_neg (fun he=>by
    have:=hq p List.mem_cons_self (i,ob) hm he
    rw [List.map_cons,List.nodup_cons] at hn
    exact hn.1 (this ▸ List.mem_map_of_mem (f:=(·.1)) hm'))]
   exact ih ⟨(List.nodup_cons.1 hn).2,fun p hp=>hz p (List.mem_cons_of_mem _ hp)⟩ (fun a ha b hb=>hq a (List.mem_cons_of_mem _ ha) b (List.mem_cons_of_mem _ hb)) hm'
theorem c9 {q:Nat→Nat} {hl:Hl} {h:HF} {r:Nat} (hr:∀p∈hl,q p.1≠r):Kd q hl h r=h r:=by
 induction hl with
 | nil=>rfl
 | cons p l ih =>
  simp only [Kd];rw [if_neg (hr p List.mem_cons_self)];exact ih fun p hp=>hr p (List.mem_cons_of_mem _ hp)
section
variable {P:Program} {c:Cx} {h:HF}
theorem QR {f:Nat} {xs:List AV} {vals:Array Value} {ρ:List Nat} {base:Nat} {bm:Bool} {R:AV→Hl→Prop}
  (hC:Bb P f (passL (E7 0 ρ) h xs) (D5 (E7 0 ρ) h 0 ρ) R) (hh:BH c h) (hx:QX c h xs vals) (hn:ρ.Nodup) (hl:∀r∈ρ,∃g sz es,h r= .arr g sz es) (hsz:c.n0≤c.w.heap.size)
  (hb:bm=true∨(nobL (E7 0 ρ) xs=true∧∀r∈ρ,∀g sz es,h r= .arr g sz es→nobL (E7 0 ρ) es=true))
  (hR:∀x hl,R x hl→FU hl∧(bm=true→x.allT=true∧∀p∈hl,Yh p.2=true)∧∀p∈hl,ρ[p.1]? =none→h (base+p.1)= .nil) :
  Calls P f vals c.w fun e w' =>∃v x hl c',e= .returned v∧c'.w=w' ∧R x hl∧Bj c h c' (Kd (rn base ρ) hl h)∧BH c' (Kd (rn base ρ) hl h)∧AS c' (Kd (rn base ρ) hl h) (x.ren (rn base ρ)) v:=by
 classical
 obtain ⟨_,hC⟩:=hC;generalize hinv:E7 0 ρ=inv at *;have inv_at:∀r i,inv r=some i→ρ[i]? =some r:=fun r i hi=>by rw [←hinv] at hi;simpa using (V7 hi).2
 have at_inv:∀r i,ρ[i]? =some r→inv r=some i:=fun r i hi=>by rw [←hinv];simpa using fX hn (k:=0) hi
 let h1:HF:=lk (D5 inv h 0 ρ) .nil;have h1_at:∀i r,ρ[i]? =some r→h1 i=LG inv h (h r):=fun i r hi=>by simp only [h1,Qx];simp [hi]
 have h1_none:∀i,ρ[i]? =none→h1 i= .nil:=fun i hi=>by simp only [h1,Qx];simp [hi]
 have h1_arr:∀i g sz es,h1 i= .arr g sz es→∃r es0,ρ[i]? =some r∧h r= .arr g sz es0∧es=passL inv h es0:=fun i g sz es hi=>by
  cases hr:ρ[i]? with
  | none=>rw [h1_none i hr] at hi;cases hi
  | some r =>
   rw [h1_at i r hr] at hi;obtain ⟨g0,sz0,es0,h0⟩:=hl r (List.mem_of_getElem? hr);rw [h0] at hi;simp only [LG] at hi;injection hi with e1 e2 e3
   subst e1 e2;exact ⟨r,es0,rfl,h0,e3.symm⟩
 have arr_h1:∀i r g sz es,ρ[i]? =some r→h r= .arr g sz es→h1 i= .arr g sz (passL inv h es):=fun i r g sz es hi hr=>by rw [h1_at i r hi,hr];rfl
 let c1:Cx:={ w:=c.w,bl:=fun i=>c.bl (rn base ρ i),rl:=fun i=>c.rl (rn base ρ i),okT:=fun b=>Dx c h true b,okF:=fun b=>if bm=true then True else Dx c h false b,n0:=c.w.heap.size };have c1bl:∀i,c1.bl i=c.bl (rn base ρ i):=fun _=>rfl
 have c1rl:∀i,c1.rl i=c.rl (rn base ρ i):=fun _=>rfl
 have rn_at:∀i r,ρ[i]? =some r→rn base ρ i=r:=fun i r hi=>by simp [rn,hi]
 have mut1:∀b,dL c1 h1 b→dL c h b:=fun b ⟨i,g,sz,es,hi,hrl,hbl⟩=>by
  obtain ⟨r,es0,e1,e2,_⟩:=h1_arr i g sz es hi;have e3:=rn_at i r e1;exact ⟨r,g,sz,es0,e2,by rw [←e3];exact hrl,by rw [←e3];exact hbl⟩
 have stab_tf:∀f b,Dx c h f b→Dx c h false b:=fun f b ⟨s1,s2,s3⟩=>by
  refine ⟨s1,s2,?_⟩;rcases s3 with s3 | s3 | s3
  ·exact .inl s3
  ·exact .inr (.inl s3)
  ·exact .inr (.inr ⟨rfl,s3.2⟩)
 have st1:∀f b,Dx c h f b→Dx c1 h1 false b:=fun f b hs=>by
  refine ⟨hs.1,fun hm=>hs.2.1 (mut1 b hm), .inr (.inr ⟨rfl,?_⟩)⟩;show if bm=true then True else Dx c h false b
  split
  ·trivial
  ·exact stab_tf f b hs
 have V:kV c h c1 h1 inv:={
  w:=rfl
  st:=st1
  ar:=fun r i g sz es hi hr=>⟨_,arr_h1 i r g sz es (inv_at r i hi) hr⟩
  dd:=fun r i hi hr=>by
   obtain ⟨g0,sz0,es0,h0⟩:=hl r (List.mem_of_getElem? (inv_at r i hi))
   rw [hr] at h0;cases h0
  bl:=fun r i hi=>by
   have e3:=rn_at i r (inv_at r i hi)
   exact ⟨by simp only [c1,e3],by simp only [c1,e3]⟩ }
 have hbor:bm=true→∀r g sz es,inv r=none→h r= .arr g sz es→c.rl r=true→Dx c1 h1 false (c.bl r):=fun hbm r g sz es hi hr hrl=>by
  obtain ⟨cs,ty,a1,_⟩:=hh.ar r g sz es hr hrl;refine ⟨lt_of_block a1,?_, .inr (.inr ⟨rfl,by simp [c1,hbm]⟩)⟩;rintro ⟨i,g1,s1,e1,hi1,hl1,hb1⟩;obtain ⟨r1,es1,k1,k2,_⟩:=h1_arr i g1 s1 e1 hi1;have e3:=rn_at i r1 k1;have:r=r1:=hh.inj r r1 g g1 sz s1 es es1 hr k2 hrl (by rw [←e3];exact hl1) (by rw [←e3];exact hb1.symm);rw [this,at_inv r1 i k1] at hi;cases hi
 have passV:∀(x:AV) (y:Value),AS c h x y→(bm=true∨x.nob inv=true)→AS c1 h1 (x.pass inv h) y:=fun x y hk hq=>hk.pass V hh (hq.imp hbor id)
 have RH1:BH c1 h1:={
  ar:=fun i g sz es hi hrl=>by
   obtain ⟨r,es0,k1,k2,rfl⟩:=h1_arr i g sz es hi
   have e3:=rn_at i r k1
   obtain ⟨cs,ty,a1,a2,a3,a4⟩:=hh.ar r g sz es0 k2 (by rw [←e3];exact hrl)
   refine ⟨cs,ty,by simp only [c1,e3];exact a1,by rw [BM,List.length_map];exact a2,fun m e he=> ?_,fun m e j u he hj=> ?_⟩
   ·rw [BM] at he
    obtain ⟨e',he',rfl⟩:=map_some he
    rw [GO,List.length_map];exact a3 m e' he'
   ·rw [BM] at he
    obtain ⟨e',he',rfl⟩:=map_some he
    rw [GO] at hj
    obtain ⟨u',hu',rfl⟩:=map_some hj
    obtain ⟨y,hy,hv⟩:=a4 m e' j u' he' hu'
    exact ⟨y,hy,passV u' y hv (hb.imp id fun hq=>by
     have:=hq.2 r (List.mem_of_getElem? k1) g sz es0 k2
     rw [FI] at this
     exact Se (this _ (List.mem_of_getElem? he')) (List.mem_of_getElem? hu'))⟩
  em:=fun i g sz es hi hrl=>by
   obtain ⟨r,es0,k1,k2,rfl⟩:=h1_arr i g sz es hi
   have e3:=rn_at i r k1
   rw [hh.em r g sz es0 k2 (by rw [←e3];exact hrl)];rfl
  inj:=fun i i' g g' sz sz' es es' hi hi' hrl hrl' hbb=>by
   obtain ⟨r,es0,k1,k2,_⟩:=h1_arr i g sz es hi
   obtain ⟨r',es0',k1',k2',_⟩:=h1_arr i' g' sz' es' hi'
   have e3:=rn_at i r k1
   have e3' :=rn_at i' r' k1'
   have:r=r' :=hh.inj r r' g g' sz sz' es0 es0' k2 k2' (by rw [←e3];exact hrl) (by rw [←e3'];exact hrl') (by rw [←e3,←e3'];exact hbb)
   subst this
   have a:=at_inv r i k1
   rw [at_inv r i' k1'] at a
   injection a with a
   exact a.symm }
 have RL1:QX c1 h1 (passL inv h xs) vals:=⟨by rw [BM,List.length_map];exact hx.1,fun i u v hu hv=>by
  rw [BM] at hu
  obtain ⟨u',hu',rfl⟩:=map_some hu
  exact passV u' v (hx.2 i u' v hu' hv) (hb.imp id fun hq=>by
   have:=hq.1;rw [FI] at this;exact this _ (List.mem_of_getElem? hu'))⟩
 refine (hC c1 vals rfl RH1 RL1).mono ?_;rintro e w' ⟨v,x,hl',c1',rfl,rfl,hRx,K1,RH1',RV1⟩;obtain ⟨hcl,hbT,hfresh⟩:=hR x hl' hRx;generalize hq:rn base ρ=q at *;let h1' :HF:=lk hl' .nil;have live_key:∀i,h1' i≠ .nil→(i,h1' i)∈hl' :=fun i hi=>Sj hi
 have key_live:∀p∈hl',h1' p.1=p.2∧p.2≠ .nil:=fun p hp=>⟨gQ hcl.1 hp,hcl.2 p hp⟩
 have qnew:∀i,ρ[i]? =none→q i=base+i:=fun i hi=>by rw [←hq];simp [rn,hi]
 have fresh:∀i,h1' i≠ .nil→ρ[i]? =none→h (q i)= .nil:=fun i hi hr=>by rw [qnew i hr];exact hfresh (i,h1' i) (live_key i hi) hr
 have qinj:∀i j,h1' i≠ .nil→h1' j≠ .nil→q i=q j→i=j:=fun i j hi hj he=>by
  cases ri:ρ[i]? with
  | some r =>
   have e1:=rn_at i r ri;cases rj:ρ[j]? with
   | some s =>
    have e2:=rn_at j s rj;rw [e1,e2] at he;subst he;have a:=at_inv r i ri;rw [at_inv r j rj] at a;injection a with a
    exact a.symm
   | none =>
    have:=fresh j hj rj;rw [←he,e1] at this;obtain ⟨g0,sz0,es0,h0⟩:=hl r (List.mem_of_getElem? ri);rw [this] at h0;cases h0
  | none =>
   cases rj:ρ[j]? with
   | some s =>
    have e2:=rn_at j s rj;have:=fresh i hi ri;rw [he,e2] at this;obtain ⟨g0,sz0,es0,h0⟩:=hl s (List.mem_of_getElem? rj);rw [this] at h0;cases h0
   | none=>rw [qnew i ri,qnew j rj] at he;omega
 have min:∀i,h1' i≠ .nil→Kd q hl' h (q i)=PO q (h1' i):=fun i hi=>eY hcl (fun p hp p' hp' he=>qinj p.1 p'.1 (by rw [(key_live p hp).1];exact (key_live p hp).2) (by rw [(key_live p' hp').1];exact (key_live p' hp').2) he) hi
 have mout:∀r,(∀i,h1' i≠ .nil→q i≠r)→Kd q hl' h r=h r:=fun r hr=>c9 fun p hp=>hr p.1 (by rw [(key_live p hp).1];exact (key_live p hp).2)
 let c' :Cx:={ w:=c1'.w,bl:=fun r=>if hx:∃i,h1' i≠ .nil∧q i=r then c1'.bl hx.choose else c.bl r,rl:=fun r=>if hx:∃i,h1' i≠ .nil∧q i=r then c1'.rl hx.choose else c.rl r,okT:=c.okT,okF:=c.okF,n0:=c.n0 };have bin:∀i,h1' i≠ .nil→c'.bl (q i)=c1'.bl i∧c'.rl (q i)=c1'.rl i:=fun i hi=>by
  have hex:∃j,h1' j≠ .nil∧q j=q i:=⟨i,hi,rfl⟩;have hch:=hex.choose_spec;have he:=qinj _ _ hch.1 hi hch.2;exact ⟨by simp only [c',dif_pos hex,he],by simp only [c',dif_pos hex,he]⟩
 have bout:∀r,(∀i,h1' i≠ .nil→q i≠r)→c'.bl r=c.bl r∧c'.rl r=c.rl r:=fun r hr=>by
  have hex:¬∃i,h1' i≠ .nil∧q i=r:=fun ⟨i,a,b⟩=>hr i a b
  exact ⟨by simp only [c',dif_neg hex],by simp only [c',dif_neg hex]⟩
 have entry_live:∀i r g sz es,ρ[i]? =some r→h r= .arr g sz es→h1' i≠ .nil:=fun i r g sz es hi hr he=>by
  have ha:=arr_h1 i r g sz es hi hr;rcases K1.ar i g sz _ ha with hd | ⟨g',es',ha',_⟩
  ·rw [show lk hl' .nil i=h1' i from rfl,he] at hd;cases hd
  ·rw [show lk hl' .nil i=h1' i from rfl,he] at ha';cases ha'
 have K:Bj c h c' (Kd q hl' h):={
  dr:=K1.dr
  os:=K1.os
  tape:=K1.tape
  output:=K1.output
  size:=K1.size
  blk:=fun b hb hm=>K1.blk b hb fun hm1=>hm (mut1 b hm1)
  dd:=fun r hr=>by
   rw [mout r fun i hi he=> ?_];exact hr
   cases ri:ρ[i]? with
   | some s =>
    have e1:=rn_at i s ri
    rw [e1] at he;subst he
    obtain ⟨g0,sz0,es0,h0⟩:=hl s (List.mem_of_getElem? ri)
    rw [hr] at h0;cases h0
   | none =>
    have:=fresh i hi ri
    rw [he,hr] at this;cases this
  ar:=fun r g sz es hr=>by
   by_cases hex:∃i,h1' i≠ .nil∧q i=r
   ·obtain ⟨i,hi,rfl⟩:=hex
    cases ri:ρ[i]? with
    | none=>have:=fresh i hi ri;rw [this] at hr;cases hr
    | some s =>
     have e1:=rn_at i s ri
     rw [e1] at hr ⊢
     have ha:=arr_h1 i s g sz es ri hr
     obtain ⟨b1,b2⟩:=bin i hi
     rw [e1] at b1 b2
     have hm:=min i hi
     rw [e1] at hm
     rcases K1.ar i g sz _ ha with hd | ⟨g',es',ha',hle,heq⟩
     ·exact .inl (by rw [hm,show h1' i= .dead from hd];rfl)
     ·refine .inr ⟨g',renL q es',by rw [hm,show h1' i= .arr g' sz es' from ha'];rfl,hle,fun he=> ?_⟩
      obtain ⟨d1,d2,d3⟩:=heq he
      have d1' :c1'.bl i=c.bl s:=by rw [d1,c1bl,e1]
      have d2' :c1'.rl i=c.rl s:=by rw [d2,c1rl,e1]
      refine ⟨by rw [b1,d1'],by rw [b2,d2'],fun hrl cs ty hcs=> ?_⟩
      have:=d3 (by rw [c1rl,e1];exact hrl) cs ty (by rw [c1bl,e1];exact hcs)
      rw [c1bl,e1] at this
      exact this
   ·have hno:∀i,h1' i≠ .nil→q i≠r:=fun i a b=>hex ⟨i,a,b⟩
    obtain ⟨b1,b2⟩:=bout r hno
    refine .inr ⟨g,es,by rw [mout r hno];exact hr,Nat.le_refl _,fun _=>⟨b1,b2,fun hrl cs ty hcs=>⟨cs,?_,rfl⟩⟩⟩
    rw [←hcs]
    refine K1.blk _ (lt_of_block hcs) ?_
    rintro ⟨i,g1,s1,es1,hi1,hl1,hb1⟩
    obtain ⟨s,es0,k1,k2,_⟩:=h1_arr i g1 s1 es1 hi1
    have e1:=rn_at i s k1
    have:r=s:=hh.inj r s g g1 sz s1 es es0 hr k2 hrl (by rw [←e1,←c1rl];exact hl1) (by rw [←e1,←c1bl];exact hb1.symm)
    exact hno i (entry_live i s g1 s1 es0 k1 k2) (by rw [e1,this])
  fr:=fun r g sz es hr hrl=>by
   by_cases hex:∃i,h1' i≠ .nil∧q i=r
   ·obtain ⟨i,hi,rfl⟩:=hex
    obtain ⟨b1,b2⟩:=bin i hi
    rw [min i hi] at hr
    cases hob:h1' i with
    | nil=>exact absurd hob hi
    | dead=>rw [hob] at hr;cases hr
    | arr g' sz' es' =>
     rw [hob] at hr
     injection hr with e1 e2 e3
     subst e1 e2
     rcases K1.fr i g' sz' es' hob (by rw [←b2];exact hrl) with k1 | ⟨g0,es0,k1,k2,k3⟩
     ·exact .inl (by rw [b1];exact k1)
     ·obtain ⟨s,es1,j1,j2,_⟩:=h1_arr i g0 sz' es0 k1
      have e1:=rn_at i s j1
      exact .inr ⟨g0,es1,by rw [e1];exact j2,by rw [←c1rl];exact k2,by rw [b1,k3,c1bl]⟩
   ·have hno:∀i,h1' i≠ .nil→q i≠r:=fun i a b=>hex ⟨i,a,b⟩
    obtain ⟨b1,b2⟩:=bout r hno
    rw [mout r hno] at hr
    exact .inr ⟨g,es,hr,by rw [←b2];exact hrl,b1⟩
  okT:=rfl
  okF:=rfl
  n0:=rfl }
 have size1:c.w.heap.size≤c1'.w.heap.size:=K1.size;have stUp:∀f b,Dx c1' h1' f b→(f=true∨bm=false)→Dx c' (Kd q hl' h) f b:=fun f b ⟨s1,s2,s3⟩ hf=>by
  have hmem:c.w.heap.size≤b∨Dx c h f b:=by
   rw [K1.n0,K1.okT,K1.okF] at s3;rcases s3 with s3 | s3 | ⟨rfl,s3⟩
   ·exact .inl s3
   ·refine .inr ?_;have s3' :Dx c h true b:=s3;cases f
    ·exact stab_tf true b s3'
    ·exact s3'
   ·have s3' :if bm=true then True else Dx c h false b:=s3
    rcases hf with hf | hf
    ·cases hf
    ·rw [hf] at s3';simp at s3';exact .inr s3'
  refine ⟨s1,?_,?_⟩
  ·rintro ⟨r,g,sz,es,hr,hrl,hbl⟩;by_cases hex:∃i,h1' i≠ .nil∧q i=r
   ·obtain ⟨i,hi,rfl⟩:=hex;obtain ⟨b1,b2⟩:=bin i hi;rw [min i hi] at hr;cases hob:h1' i with
    | nil=>exact absurd hob hi
    | dead=>rw [hob] at hr;cases hr
    | arr g' sz' es' =>exact s2 ⟨i,g',sz',es',hob,by rw [←b2];exact hrl,by rw [←b1];exact hbl⟩
   ·have hno:∀i,h1' i≠ .nil→q i≠r:=fun i a b=>hex ⟨i,a,b⟩
    obtain ⟨b1,b2⟩:=bout r hno;rw [mout r hno] at hr;rw [b1] at hbl;rw [b2] at hrl;obtain ⟨cs,ty,a1,_⟩:=hh.ar r g sz es hr hrl;have:=lt_of_block a1;rcases hmem with hm | hm
    ·omega
    ·exact hm.2.1 ⟨r,g,sz,es,hr,hrl,hbl⟩
  ·rcases hmem with hm | hm
   ·exact .inl (Nat.le_trans hsz hm)
   ·exact hm.2.2
 have ho:∀i,h1' i≠ .nil→Kd q hl' h (q i)=PO q (h1' i)∧c'.bl (q i)=c1'.bl i∧c'.rl (q i)=c1'.rl i:=fun i hi=>⟨min i hi,bin i hi⟩
 have up:∀(u:AV) (y:Value),AS c1' h1' u y→(bm=true→u.allT=true)→AS c' (Kd q hl' h) (u.ren q) y:=fun u y hu ha =>
  AS.up (c:=c') (c1:=c1') (h:=Kd q hl' h) (h1:=h1') (ρ:=q) rfl (fun b hs=>stUp true b hs (.inl rfl)) ho hu (by
   cases hbm:bm
   ·exact .inl fun b hs=>stUp false b hs (.inr hbm)
   ·exact .inr (ha hbm))
 refine ⟨v,x,hl',c',rfl,rfl,hRx,K,⟨?_,?_,?_⟩,up x v RV1 fun hbm=>(hbT hbm).1⟩
 ·intro r g sz es hr hrl;by_cases hex:∃i,h1' i≠ .nil∧q i=r
  ·obtain ⟨i,hi,rfl⟩:=hex;obtain ⟨b1,b2⟩:=bin i hi;rw [min i hi] at hr;cases hob:h1' i with
   | nil=>exact absurd hob hi
   | dead=>rw [hob] at hr;cases hr
   | arr g' sz' es' =>
    rw [hob] at hr;simp only [PO] at hr;injection hr with e1 e2 e3
    subst e1 e2 e3;obtain ⟨cs,ty,a1,a2,a3,a4⟩:=RH1'.ar i g' sz' es' hob (by rw [←b2];exact hrl);refine ⟨cs,ty,by rw [b1];exact a1,by rw [B0,List.length_map];exact a2,fun m e he=> ?_,fun m e j u he hj=> ?_⟩
    ·rw [B0] at he;obtain ⟨e',he',rfl⟩:=map_some he;rw [IM,List.length_map];exact a3 m e' he'
    ·rw [B0] at he;obtain ⟨e',he',rfl⟩:=map_some he;rw [IM] at hj;obtain ⟨u',hu',rfl⟩:=map_some hj;obtain ⟨y,hy,hv⟩:=a4 m e' j u' he' hu';refine ⟨y,hy,up u' y hv fun hbm=> ?_⟩;have:=(hbT hbm).2 _ (live_key i hi);rw [hob] at this;simp only [Yh,Ew] at this;exact PG (this _ (List.mem_of_getElem? he')) (List.mem_of_getElem? hu')
  ·have hno:∀i,h1' i≠ .nil→q i≠r:=fun i a b=>hex ⟨i,a,b⟩
   obtain ⟨b1,b2⟩:=bout r hno;rw [mout r hno] at hr;rw [b2] at hrl;obtain ⟨cs,ty,a1,a2,a3,a4⟩:=hh.ar r g sz es hr hrl;have hsame:c1'.w.heap[c.bl r]? =c.w.heap[c.bl r]? :=K1.blk _ (lt_of_block a1) (by
    rintro ⟨i,g1,s1,es1,hi1,hl1,hb1⟩
    obtain ⟨s,es0,k1,k2,_⟩:=h1_arr i g1 s1 es1 hi1
    have e1:=rn_at i s k1
    have:r=s:=hh.inj r s g g1 sz s1 es es0 hr k2 hrl (by rw [←e1,←c1rl];exact hl1) (by rw [←e1,←c1bl];exact hb1.symm)
    exact hno i (entry_live i s g1 s1 es0 k1 k2) (by rw [e1,this]))
   exact ⟨cs,ty,by rw [b1];exact hsame.trans a1,a2,a3,fun m e j u he hj=>by
    obtain ⟨y,hy,hv⟩:=a4 m e j u he hj
    exact ⟨y,hy,hv.ext K.ext⟩⟩
 ·intro r g sz es hr hrl;by_cases hex:∃i,h1' i≠ .nil∧q i=r
  ·obtain ⟨i,hi,rfl⟩:=hex;obtain ⟨b1,b2⟩:=bin i hi;rw [min i hi] at hr;cases hob:h1' i with
   | nil=>exact absurd hob hi
   | dead=>rw [hob] at hr;cases hr
   | arr g' sz' es' =>
    rw [hob] at hr;simp only [PO] at hr;injection hr with e1 e2 e3
    rw [←e3,RH1'.em i g' sz' es' hob (by rw [←b2];exact hrl)];rfl
  ·have hno:∀i,h1' i≠ .nil→q i≠r:=fun i a b=>hex ⟨i,a,b⟩
   obtain ⟨b1,b2⟩:=bout r hno;rw [mout r hno] at hr;rw [b2] at hrl;exact hh.em r g sz es hr hrl
 ·intro r r' g g' sz sz' es es' hr hr' hrl hrl' hbb;by_cases hex:∃i,h1' i≠ .nil∧q i=r<;>by_cases hex' :∃i,h1' i≠ .nil∧q i=r'
  ·obtain ⟨i,hi,rfl⟩:=hex;obtain ⟨i',hi',rfl⟩:=hex';obtain ⟨b1,b2⟩:=bin i hi;obtain ⟨b1',b2'⟩:=bin i' hi';rw [min i hi] at hr;rw [min i' hi'] at hr';cases hob:h1' i with
   | nil=>exact absurd hob hi
   | dead=>rw [hob] at hr;cases hr
   | arr g2 sz2 es2 =>
    cases hob' :h1' i' with
    | nil=>exact absurd hob' hi'
    | dead=>rw [hob'] at hr';cases hr'
    | arr g3 sz3 es3=>rw [RH1'.inj i i' g2 g3 sz2 sz3 es2 es3 hob hob' (by rw [←b2];exact hrl) (by rw [←b2'];exact hrl') (by rw [←b1,←b1'];exact hbb)]
  all_goals
   have far:∀i s g1 s1 es1,h1' i≠ .nil→(∀j,h1' j≠ .nil→q j≠s)→Kd q hl' h (q i)= .arr g sz es∨Kd q hl' h (q i)= .arr g' sz' es' →c'.rl (q i)=true→h s= .arr g1 s1 es1→c.rl s=true→c'.bl (q i)≠c.bl s:=fun i s g1 s1 es1 hi hno ho' hrl1 hs hrl2 he=>by
    obtain ⟨b1,b2⟩:=bin i hi;rw [min i hi] at ho';cases hob:h1' i with
    | nil=>exact absurd hob hi
    | dead=>rw [hob] at ho';rcases ho' with ho' | ho' <;>cases ho'
    | arr g2 sz2 es2 =>
     obtain ⟨cs,ty,a1,_⟩:=hh.ar s g1 s1 es1 hs hrl2;have hlt:=lt_of_block a1;rcases K1.fr i g2 sz2 es2 hob (by rw [←b2];exact hrl1) with k1 | ⟨g0,es0,k1,k2,k3⟩
     ·have k1' :c.w.heap.size≤c1'.bl i:=k1;rw [b1] at he;omega
     ·obtain ⟨t,est,j1,j2,_⟩:=h1_arr i g0 sz2 es0 k1;have e1:=rn_at i t j1;have k3' :c1'.bl i=c.bl (q i):=by rw [k3,c1bl]
      have k2' :c.rl (q i)=true:=by rw [←c1rl];exact k2
      rw [b1,k3',e1] at he;rw [e1] at k2';have:t=s:=hh.inj t s g0 g1 sz2 s1 est es1 j2 hs k2' hrl2 he;exact hno i hi (by rw [e1,this])
  ·obtain ⟨i,hi,rfl⟩:=hex;have hno:∀j,h1' j≠ .nil→q j≠r' :=fun j a b=>hex' ⟨j,a,b⟩
   obtain ⟨b1,b2⟩:=bout r' hno;exact absurd (by rw [←b1];exact hbb) (far i r' g' sz' es' hi hno (.inl hr) hrl (by rw [←mout r' hno];exact hr') (by rw [←b2];exact hrl'))
  ·obtain ⟨i,hi,rfl⟩:=hex';have hno:∀j,h1' j≠ .nil→q j≠r:=fun j a b=>hex ⟨j,a,b⟩
   obtain ⟨b1,b2⟩:=bout r hno;exact absurd (by rw [←b1];exact hbb.symm) (far i r g sz es hi hno (.inr hr') hrl' (by rw [←mout r hno];exact hr) (by rw [←b2];exact hrl))
  ·have hno:∀j,h1' j≠ .nil→q j≠r:=fun j a b=>hex ⟨j,a,b⟩
   have hno' :∀j,h1' j≠ .nil→q j≠r' :=fun j a b=>hex' ⟨j,a,b⟩
   obtain ⟨b1,b2⟩:=bout r hno;obtain ⟨b1',b2'⟩:=bout r' hno';rw [mout r hno] at hr;rw [mout r' hno'] at hr';exact hh.inj r r' g g' sz sz' es es' hr hr' (by rw [←b2];exact hrl) (by rw [←b2'];exact hrl') (by rw [←b1,←b1'];exact hbb)
end
end Go.Proofs.YthblfhgofopcaaaGreat
