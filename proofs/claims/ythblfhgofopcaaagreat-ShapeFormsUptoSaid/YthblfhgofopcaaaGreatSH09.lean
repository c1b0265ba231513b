/-
  Parts of the proof: VmQ, VmR, VmS, VmU.
-/
import Derived.Test.YthblfhgofopcaaaGreatSH07
set_option linter.all false
namespace Go.Proofs.YthblfhgofopcaaaGreat
open Go.RowKit
variable [DM]
def EM:Nat→List AV→List (Nat×AV)
 | _,[]=>[]
 | i,x::l=>(i,x)::EM (i+1) l
def GX (T:Dj) (tm:List (Nat×AV)) (h:HF):List ResultVar→Prop×List AV
 | []=>(True,[])
 | .tmp t::l=>((GX T tm h l).1,lk tm .any t::(GX T tm h l).2)
 | .cell a t::l=>match T t with
  | some i=>match FA i h (lk tm .any a) with
   | .out p x _=>(p∧(GX T tm h l).1,x::(GX T tm h l).2)
   | _=>(False,[])
  | none=>(False,[])
def ZG:List AV→AV
 | [x]=>x
 | l=> .tup l
def V1 (T:Dj) (rs:List ResultVar) (ne:Nat) (R:AV→Hl→Prop):Exit→St→Prop:=fun e σ=>(e= .normal∨e= .ret)∧(GX T σ.tm (lk σ.hp .nil) rs).1∧
 ∃l d,C0 ne l∧R ((ZG (GX T σ.tm (lk σ.hp .nil) rs).2).fin (Ex l) (frz (Ex l) (lk σ.hp .nil) d)) (IC (lk σ.hp .nil) (Ex l) (frz (Ex l) (lk σ.hp .nil) d) l)
def YZ (tmps:Array Value):ResultVar→Sem Value
 | .tmp t=>pure (tmps.getD t undef)
 | .cell ad t=>do loadVar t (←asAddr (tmps.getD ad undef))
theorem TD (fn:Func) (tmps:Array Value):results fn tmps=(fn.results.mapM (YZ tmps) >>= fun vs=>pure (if h:vs.size=1 then vs[0] else .tuple vs)):=by
 unfold results;congr 1
section
variable {P:Program} {T:Dj} {c:Cx} {h:HF}
theorem Ub {t:Nat} {i:TI} {x a:AV} {y:Value} {p:Prop} {us:List (Nat×Ob)} (hT:CQ P T) (ht:T t=some i) (hh:BH c h) (ha:AS c h a y) (hp:FA i h a= .out p x us) (hq:p) :
  ∃ad v,y= .pointer (some ad)∧(loadVar t ad).run P c.w= .ok v c.w∧AS c h x v:=by
 cases a with
 | ref r g k j =>
  simp only [FA] at hp;split at hp
  ·rename_i g' sz es hr;cases hpp:Fv i sz (Dv es k) j with
   | out p' x' us' =>
    rw [hpp] at hp;simp only [Rs.also] at hp;injection hp with h1 h2 h3
    subst h1 h2 h3;obtain ⟨⟨rfl,hk⟩,hp'⟩:=hq;obtain ⟨hy,hs,hc⟩:=E8.of_ref hh hr hk ha;obtain ⟨_,v,hrun,hrel⟩:=KF hT ht hs hc hpp hp';exact ⟨_,v,hy,hrun,hrel⟩
   | _=>rw [hpp] at hp;cases hp
  ·cases hp
 | isp f sz es k j =>
  simp only [FA] at hp;cases hpp:Fv i sz (Dv es k) j with
  | out p' x' us' =>
   rw [hpp] at hp;simp only [Rs.also] at hp;injection hp with h1 h2 h3
   subst h1 h2 h3;obtain ⟨hk,hp'⟩:=hq;obtain ⟨b,o',hy,hs,hc⟩:=E8.of_isp hk ha;obtain ⟨_,v,hrun,hrel⟩:=KF hT ht hs hc hpp hp';exact ⟨_,v,hy,hrun,hrel⟩
  | _=>rw [hpp] at hp;cases hp
 | _=>cases hp
theorem IN (hT:CQ P T) (hh:BH c h) {nt:Nat} {tm:List (Nat×AV)} {a:Act} (hf:ID c h nt tm a):∀(rs:List ResultVar),(GX T tm h rs).1→
  ∃vs:List Value,(rs.mapM (YZ a.tmps)).run P c.w= .ok vs c.w∧vs.length=(GX T tm h rs).2.length∧
   ∀(i:Nat) (x:AV) (y:Value),(GX T tm h rs).2[i]? =some x→vs[i]? =some y→AS c h x y
 | [],_=>⟨[],by simp,rfl,fun i x y hx=>by simp [GX] at hx⟩
 | .tmp t::l,hq=>by
  simp only [GX] at hq;obtain ⟨vs,h1,h2,h3⟩:=IN hT hh hf l hq;refine ⟨a.tmps.getD t undef::vs,by simp [List.mapM_cons,YZ,h1],by simp [GX,h2],fun i x y hx hy=> ?_⟩;cases i with
  | zero =>
   simp only [GX,List.getElem?_cons_zero] at hx hy;injection hx with hx
   injection hy with hy
   subst hx hy;exact hf.tm t
  | succ i=>simp [GX] at hx hy;exact h3 i x y hx hy
 | .cell ad t::l,hq=>by
  simp only [GX] at hq;cases ht:T t with
  | none=>simp [ht] at hq
  | some ti =>
   simp only [ht] at hq;cases hl:FA ti h (lk tm .any ad) with
   | out p x us =>
    simp only [hl] at hq;obtain ⟨vs,h1,h2,h3⟩:=IN hT hh hf l hq.2;obtain ⟨b,v,e1,e2,e3⟩:=Ub hT ht hh (hf.tm ad) hl hq.1;have e0:(GX T tm h (.cell ad t::l)).2=x::(GX T tm h l).2:=by simp [GX,ht,hl]
    refine ⟨v::vs,by simp only [List.mapM_cons,YZ,Sem.run_bind,Sem.run_pure,e1,asAddr,Result.andThen_ok,e2,h1],by rw [e0];simp [h2],fun i x' y hx hy=> ?_⟩;rw [e0] at hx;cases i with
    | zero=>simp at hx hy;subst hx hy;exact e3
    | succ i=>simp at hx hy;exact h3 i x' y hx hy
   | bad=>simp [hl] at hq
   | call=>simp [hl] at hq
theorem T3 {c:Cx} {h:HF} (vals:Array Value):∀(ys:List AV) (k:Nat) (t:Nat),(∀(i:Nat) (u:AV) (v:Value),ys[i]? =some u→vals[k+i]? =some v→AS c h u v)→ys.length+k=vals.size→AS c h (lk (EM k ys) .any t) (vals.getD t undef)
 | [],k,t,_,_=> .any _
 | y::ys,k,t,hr,hl=>by
  simp only [EM,lk];split
  ·rename_i he;subst he;have hlt:k<vals.size:=by simp at hl;omega
   rw [Array.getD_eq_getD_getElem?,Array.getElem?_eq_getElem hlt];exact hr 0 y _ rfl (by simp [hlt])
  ·exact T3 vals ys (k+1) t (fun i u v hu hv=>hr (i+1) u v (by simpa using hu) (by rw [show k+(i+1)=k+1+i by omega];exact hv)) (by simp at hl ⊢;omega)
theorem Ow {Q : Exit → St → Prop} {f : Nat} {fn : Func} {cd : Code} {ys : List AV} {hc : Hl} {R : AV → Hl → Prop} {ne nx : Nat} {D : List Oper → St → (St → Prop) → Prop} (hT : CQ P T) (hD : Nk P fn.ntmps D) (hf : P.funcs[f]? = some fn) (hnm : (fn.name == "runtime.NumGoroutine") = false) (hb : fn.body = some cd)
  (hy:ys.length≤fn.ntmps) (hne:∀p∈hc,p.1<ne) (hQ:∀e σ,Q e σ→∃σ',Wk fn.ntmps ne σ σ' ∧V1 T fn.results.toList ne R e σ') (h:AW P T fn.ntmps ne D cd Q ⟨nx,EM 0 ys,hc⟩):Bb P f ys hc R:=by
 refine ⟨⟨fn,cd,hf,hnm,hb⟩,fun c vals hn hh hx=>calls_of_wp hf hb ?_⟩;have hr:V3 c (lk hc .nil) fn.ntmps ⟨nx,EM 0 ys,hc⟩ c { tmps:=vals++Array.replicate (fn.ntmps-vals.size) undef,defers:=[] }:=by
  refine ⟨Bj.refl _ _,hh,⟨by have:=hx.1;simp;omega,rfl,fun t=> ?_⟩⟩;have:=T3 (c:=c) (h:=lk hc .nil) vals ys 0 t (fun i u v hu hv=>hx.2 i u v hu (by simpa using hv)) (by simp [hx.1]);by_cases hlt:t<vals.size
  ·have e:(vals++Array.replicate (fn.ntmps-vals.size) undef).getD t undef=vals.getD t undef:=by
    simp only [Array.getD_eq_getD_getElem?];rw [Array.getElem?_append_left hlt]
   show AS c (lk hc .nil) (lk (EM 0 ys) .any t) _;rw [e];exact this
  ·have:lk (EM 0 ys) .any t= .any:=by
    have key:∀(ys:List AV) (k:Nat),ys.length+k≤t→lk (EM k ys) .any t= .any:=by
     intro ys;induction ys with
     | nil=>intro k _;rfl
     | cons y ys ih =>
      intro k hk;simp only [EM,lk,List.length_cons] at hk ⊢;rw [if_neg (by omega)];exact ih (k+1) (by omega)
    exact key ys 0 (by have:=hx.1;omega)
   show AS c (lk hc .nil) (lk (EM 0 ys) .any t) _;rw [this];exact .any _
 have he:∀i,lk hc .nil i≠ .nil→i<ne:=fun i hi=>hne _ (Sj hi)
 refine wp_mono (YU hT hD he hn cd _ _ c _ h hr) ?_;rintro e a w ⟨σ0,c0',rfl,hq,hr0⟩;obtain ⟨σ,hw,hex,hp,l,d,hl,hR⟩:=hQ _ _ hq;obtain ⟨c',ec,hr'⟩:=hw c _ c0' a he hn hr0;rw [←ec];obtain ⟨vs,r1,r2,r3⟩:=IN hT hr'.hp hr'.fr fn.results.toList hp;obtain ⟨c2,e1,e2,e3,e4⟩:=Vn (d:=d) he hl.1 hl.2.1 hl.2.2 hn hr'.kp hr'.hp;have hrun:∃v,(results fn a.tmps).run P c'.w= .ok v c'.w∧AS c' (lk σ.hp .nil) (ZG (GX T σ.tm (lk σ.hp .nil) fn.results.toList).2) v:=by
  generalize (GX T σ.tm (lk σ.hp .nil) fn.results.toList).2=xs at r2 r3;have hm:(fn.results.mapM (YZ a.tmps)).run P c'.w= .ok vs.toArray c'.w:=by
   rw [Array.mapM_eq_mapM_toList,Sem.run_map,r1];rfl
  have htup:AS c' (lk σ.hp .nil) (.tup xs) (.tuple vs.toArray):= .tup _ _ (by simp [r2]) fun i x y hx hy=>r3 i x y hx (by simpa using hy)
  rw [TD];simp only [Sem.run_bind];by_cases h1:vs.length=1
  ·obtain ⟨v,rfl⟩:=List.length_eq_one_iff.1 h1;obtain ⟨x,rfl⟩:=List.length_eq_one_iff.1 (by rw [←r2];exact h1);refine ⟨v,?_,r3 0 x v rfl rfl⟩;rw [hm];simp
  ·refine ⟨.tuple vs.toArray,?_,?_⟩
   ·rw [hm];simp [h1]
   ·have:ZG xs= .tup xs:=by
     cases xs with
     | nil=>rfl
     | cons x l=>cases l with
      | nil=>simp at r2;exact absurd r2 h1
      | cons y l=>rfl
    rw [this];exact htup
 obtain ⟨v,hv,hrel⟩:=hrun;rcases hex with rfl | rfl;all_goals exact ⟨hr'.fr.df,v,hv,v,_,_,c2,rfl,e1,hR,e2,e3,e4 _ _ hrel⟩
theorem X7 {f : Nat} {fn : Func} {cd : Code} {ys : List AV} {hc : Hl} {R : AV → Hl → Prop} {ne nx : Nat} {D : List Oper → St → (St → Prop) → Prop} (hT : CQ P T) (hD : Nk P fn.ntmps D) (hf : P.funcs[f]? = some fn) (hnm : (fn.name == "runtime.NumGoroutine") = false) (hb : fn.body = some cd)
  (hy:ys.length≤fn.ntmps) (hne:∀p∈hc,p.1<ne) (h:AW P T fn.ntmps ne D cd (V1 T fn.results.toList ne R) ⟨nx,EM 0 ys,hc⟩):Bb P f ys hc R :=
 Ow hT hD hf hnm hb hy hne (fun _ σ hq=>⟨σ, .rfl',hq⟩) h
def Z4 (T:Dj) (nt:Nat) (rs:List ResultVar) (ne:Nat) (R:AV→Hl→Prop):Exit→St→Prop:=fun e σ=>∃σ',Wk nt ne σ σ' ∧V1 T rs ne R e σ'
theorem Oy {f : Nat} {fn : Func} {cd : Code} {ys : List AV} {hc : Hl} {R : AV → Hl → Prop} {ne nx : Nat} {D : List Oper → St → (St → Prop) → Prop} (hT : CQ P T) (hD : Nk P fn.ntmps D) (hf : P.funcs[f]? = some fn) (hnm : (fn.name == "runtime.NumGoroutine") = false) (hb : fn.body = some cd)
  (hy:ys.length≤fn.ntmps) (hne:∀p∈hc,p.1<ne) (h:AW P T fn.ntmps ne D cd (Z4 T fn.ntmps fn.results.toList ne R) ⟨nx,EM 0 ys,hc⟩):Bb P f ys hc R :=
 Ow hT hD hf hnm hb hy hne (fun _ _ hq=>hq) h
end
end Go.Proofs.YthblfhgofopcaaaGreat

namespace Go.Proofs.YthblfhgofopcaaaGreat
open Go.RowKit
variable [DM]
section
variable {P:Program} {T:Dj} {nt ne:Nat} {D:List Oper→St→(St→Prop)→Prop} {Q:Exit→St→Prop} {σ:St}
theorem AC {a b:Code} (h:∀K:St→Prop,(∀σ,AW P T nt ne D b Q σ→K σ)→AW P T nt ne D a (Cr K Q) σ):AW P T nt ne D (.seq a b) Q σ:=h _ fun σ h=>⟨σ, .rfl',h⟩
theorem fC {id:Nat} {l:List Oper} {nx:Nat} {tm:List (Nat×AV)} {hp:Hl} (h:EZ P T nt l l nx tm hp (Q .normal)):AW P T nt ne D (.region id l.toArray false) Q ⟨nx,tm,hp⟩:=h
theorem MS {i:Nat} {a:Code} (h:AW P T nt ne D a (FK i Q) σ):AW P T nt ne D (.block i a) Q σ:=h
theorem Ql {a:Code} (h:AW P T nt ne D a (KL Q) σ):AW P T nt ne D (.scope a) Q σ:=h
theorem Qj {l:Nat} (h:Q .normal σ):AW P T nt ne D (.label l) Q σ:=h
theorem J9 (h:Q .normal σ):KL Q .normal σ:=h
theorem So {i:Nat} (h:Q (.exit i) σ):KL Q (.exit i) σ:=h
theorem Oo (h:Q .ret σ):KL Q .ret σ:=h
theorem PU {i:Nat} (h:Q (.exit i) σ):AW P T nt ne D (.exit i) Q σ:=h
theorem FW (h:Q .normal σ):AW P T nt ne D .skip Q σ:=h
theorem EH (h:Q .ret σ):AW P T nt ne D .ret Q σ:=h
theorem Ac {x:Operand} {a b:Code} {t:Bool} (hx:Dd σ.tm x= .v (.bool t)) (h:(t=true→AW P T nt ne D a Q σ)∧(t=false→AW P T nt ne D b Q σ)):AW P T nt ne D (.cond x a b) Q σ:=by
 show XG (Dd σ.tm x) _ _;rw [hx];exact h
theorem Nc {x:Operand} {a b:Code} (hx:Dd σ.tm x= .v (.bool true)) (h:AW P T nt ne D a Q σ):AW P T nt ne D (.cond x a b) Q σ:=Ac hx ⟨fun _=>h,fun h=>by cases h⟩
theorem MM {x:Operand} {a b:Code} (hx:Dd σ.tm x= .v (.bool false)) (h:AW P T nt ne D b Q σ):AW P T nt ne D (.cond x a b) Q σ:=Ac hx ⟨(fun h=>by cases h),fun _=>h⟩
theorem ZD {a:Code} (I:Nat→St→Prop) (l:List (Nat×Nat)) (d:Nat) (ts:List Nat) (nx:Nat) (hl:C0 ne l) (h0:∃n,I n (Fj l d ts nx σ))
  (h:∀n σ',I n σ' →∀K:St→Prop,(∀m σ'',m<n→I m (Fj l d ts nx σ'')→K σ'')→AW P T nt ne D a (Cr K Q) σ'):AW P T nt ne D (.loop a) Q σ:=by
 obtain ⟨n,h0⟩:=h0;exact ⟨I,⟨n,_,HH hl,h0⟩,fun n σ' hI=>h n σ' hI _ fun m σ'' hm hI2=>⟨m,_,hm,HH hl,hI2⟩⟩
theorem DO {K:St→Prop} (h:K σ):Cr K Q .normal σ:=h
theorem Ut {K:St→Prop} {i:Nat} (h:Q (.exit i) σ):Cr K Q (.exit i) σ:=h
theorem Q7 {K:St→Prop} (h:Q .ret σ):Cr K Q .ret σ:=h
theorem Cw {i:Nat} (h:Q .normal σ):FK i Q .normal σ:=h
theorem TS {i:Nat} (h:Q .normal σ):FK i Q (.exit i) σ:=by show if i=i then _ else _;rw [if_pos rfl];exact h
theorem Q3 {i j:Nat} (hj:(j==i)=false) (h:Q (.exit j) σ):FK i Q (.exit j) σ:=by
 show if j=i then _ else _
 rw [if_neg (by simpa using hj)];exact h
theorem Om {i:Nat} (h:Q .ret σ):FK i Q .ret σ:=h
end
def AM (P:Program) (f:Nat) (ys:List AV) (res:AV):Prop:=Bb P f ys [] fun x hl=>x=res∧hl=[]
theorem Ap.says {P:Program} {f:Nat} {xs ys:List AV} {res:AV} {hp:Hl} {nm:Nat} {K:AV→Hl→Prop} (hC:AM P f ys res) (hy:passL (fun _=>none) (lk hp .nil) xs=ys) (hb:res.allT=true∨nobL (fun _=>none) xs=true) (hr:∀q,res.ren q=res) (h:K res hp):Ap P f xs hp nm K:=by
 have e:E7 0 []=fun _=>none:=by funext r;rfl
 subst hy;refine ⟨[],res.allT,_,by rw [e];exact hC,List.nodup_nil,(fun r h=>by cases h),?_,?_⟩
 ·rw [e];rcases hb with hb | hb
  ·exact .inl hb
  ·exact .inr ⟨hb,(fun r h=>by cases h)⟩
 ·rintro x hl ⟨rfl,rfl⟩;exact ⟨⟨List.nodup_nil,(fun p h=>by cases h)⟩,(fun hb=>⟨hb,(fun p h=>by cases h)⟩),(fun p h=>by cases h),by rw [hr];exact h⟩
abbrev I (n:Int):AV:= .v (.int .i64 n)
abbrev B (b:Bool):AV:= .v (.bool b)
abbrev AN (f:Bool) (zs:List Int):AV:= .sl f 1 (zs.map I)
theorem DK:C0 0 []:=⟨(fun i h=>absurd h (Nat.not_lt_zero i)),List.nodup_nil,List.nodup_nil⟩
@[go_sem] theorem SS (inv:Nat→Option Nat) (F:Nat→Nat→Nat→Nat→AV) (zs:List Int):finL inv F (zs.map I)=zs.map I:=by
 induction zs with
 | nil=>rfl
 | cons z zs ih=>simp only [List.map_cons,finL,ih];rfl
@[go_sem] theorem PT (inv:Nat→Option Nat) (h:HF) (zs:List Int):passL inv h (zs.map I)=zs.map I:=by
 induction zs with
 | nil=>rfl
 | cons z zs ih=>simp only [List.map_cons,passL,ih];rfl
@[go_sem] theorem Vs (zs:List Int):lowL (zs.map I)=zs.map I:=by
 induction zs with
 | nil=>rfl
 | cons z zs ih=>simp only [List.map_cons,lowL,ih];rfl
@[go_sem] theorem Sy (q:Nat→Nat) (zs:List Int):renL q (zs.map I)=zs.map I:=by
 induction zs with
 | nil=>rfl
 | cons z zs ih=>simp only [List.map_cons,renL,ih];rfl
@[go_sem] theorem Pd (inv:Nat→Option Nat) (zs:List Int):nobL inv (zs.map I)=true:=by
 induction zs with
 | nil=>rfl
 | cons z zs ih=>simp only [List.map_cons,nobL,ih];rfl
@[go_sem] theorem ZP (zs:List Int):allTL (zs.map I)=true:=by
 induction zs with
 | nil=>rfl
 | cons z zs ih=>simp only [List.map_cons,allTL,ih];rfl
@[go_sem] theorem kF (x:AV) (l:List AV):Dv (x::l) 0=x:=rfl
@[go_sem] theorem kK (x:AV) (l:List AV) (k:Nat):Dv (x::l) (k+1)=Dv l k:=rfl
theorem Ih {α:Type} (f:α→AV) (l:List α) (k:Nat) (h:k<l.length):Dv (l.map f) k=f l[k]:=by simp [Dv,h]
theorem Al {n:Int} (h0: -9223372036854775808≤n) (h1:n<9223372036854775808):IntKind.i64.wrap n=n:=by
 rw [IntKind.wrap_i64];omega
theorem Rm (a b:Int):IntKind.i64.wrap (IntKind.i64.wrap a+b)=IntKind.i64.wrap (a+b):=by
 simp only [IntKind.wrap_i64];omega
theorem BK {k:Nat} (h:k<9223372036854775807):IntKind.i64.wrap ((k:Int)+1)=((k+1:Nat):Int):=by
 rw [Al (by omega) (by omega)];rfl
@[go_sem] theorem kC {α:Type} (f:α→AV) (l:List α) (n:Nat):(l.map f).take n=(l.take n).map f:=(List.map_take ..).symm
@[go_sem] theorem jL {α:Type} (f:α→AV) (l:List α) (n:Nat):(l.map f).drop n=(l.drop n).map f:=(List.map_drop ..).symm
@[go_sem] theorem QA (inv:Nat→Option Nat) (F:Nat→Nat→Nat→Nat→AV) (l:List AV):l.map (AV.fin inv F)=finL inv F l:=by
 induction l with
 | nil=>rfl
 | cons x l ih=>simp only [List.map_cons,finL,ih]
@[go_sem] theorem RY (inv:Nat→Option Nat) (F:Nat→Nat→Nat→Nat→AV) (l m:List AV):finL inv F (l++m)=finL inv F l++finL inv F m:=by
 rw [←QA,←QA,←QA,List.map_append]
@[go_sem] theorem dT (l m:List AV):lowL (l++m)=lowL l++lowL m:=by
 rw [BQ,BQ,BQ,List.map_append]
@[go_sem] theorem lT {α:Type} (f:α→AV) (l m:List α):l.map f++m.map f=(l++m).map f:=List.map_append.symm
@[go_sem] theorem jN {α:Type} (f:α→AV) (l:List α) (x:α):l.map f++[f x]=(l++[x]).map f:=by simp
attribute [go_sem] List.take_length Nat.le_refl List.length_take List.length_drop List.length_append
section
variable (l:List AV) (x:Value) (f:Bool) (a b c d:Nat)
@[go_sem] theorem uP:(AV.agg l).cs=l:=rfl
@[go_sem] theorem wG:(AV.v x).cs=[.v x]:=rfl
@[go_sem] theorem vL:(AV.sl f a l).cs=[.sl f a l]:=rfl
@[go_sem] theorem uZ:(AV.isp f a l b c).cs=[.isp f a l b c]:=rfl
@[go_sem] theorem sL:(AV.ref a b c d).cs=[.ref a b c d]:=rfl
@[go_sem] theorem vD:(AV.rsl a b c d).cs=[.rsl a b c d]:=rfl
@[go_sem] theorem uB:(AV.clo a l).cs=[.clo a l]:=rfl
@[go_sem] theorem tL:AV.any.cs=[.any]:=rfl
@[go_sem] theorem sE:(AV.tup l).cs=[.tup l]:=rfl
@[go_sem] theorem kZ:PD (.agg l)=true:=rfl
@[go_sem] theorem o9:Ce (.agg l)=true:=rfl
@[go_sem] theorem vM:Ce (.v x)=x.oneCell' :=rfl
@[go_sem] theorem tA:Ce (.sl f a l)=true:=rfl
@[go_sem] theorem oV:Ce (.isp f a l b c)=true:=rfl
@[go_sem] theorem nO:Ce (.ref a b c d)=true:=rfl
@[go_sem] theorem qE:Ce (.rsl a b c d)=true:=rfl
@[go_sem] theorem nT:Ce (.clo a l)=true:=rfl
@[go_sem] theorem vW:(AV.v x).one=x.oneCell' :=rfl
@[go_sem] theorem tI:(AV.sl f a l).one=true:=rfl
@[go_sem] theorem pW:(AV.isp f a l b c).one=true:=rfl
@[go_sem] theorem mL:(AV.ref a b c d).one=true:=rfl
@[go_sem] theorem p7:(AV.rsl a b c d).one=true:=rfl
@[go_sem] theorem mE:(AV.clo a l).one=true:=rfl
@[go_sem] theorem l6 (k:IntKind) (n:Int):(Value.int k n).oneCell' =true:=rfl
@[go_sem] theorem kH (b:Bool):(Value.bool b).oneCell' =true:=rfl
@[go_sem] theorem jB (A:Option Addr):(Value.slice A a b).oneCell' =true:=rfl
end
def Ge (g:Gd) (r s:List (Nat×AV)→Prop) (tm:List (Nat×AV)):Prop:=match g with
 | .run=>r tm
 | .skip=>s tm
 | .ask b t want=>match b,want with
  | true,true=>r (Ci tm t (.v (.bool true)))
  | false,false=>r (Ci tm t (.v (.bool false)))
  | true,false=>s (Ci tm t (.v (.bool true)))
  | false,true=>s (Ci tm t (.v (.bool false)))
 | .bad=>False
def Mn (x:Rs) (k:Prop→AV→List (Nat×Ob)→Prop) (c:Nat→List AV→Prop):Prop:=match x with
 | .bad=>False
 | .out p x us=>k p x us
 | .call f xs=>c f xs
@[congr] theorem dB {x x' :Rs} (h:x=x') (k:Prop→AV→List (Nat×Ob)→Prop) (c:Nat→List AV→Prop):Mn x k c=Mn x' k c:=by rw [h]
section
variable (r s:List (Nat×AV)→Prop) (tm:List (Nat×AV)) (t:Nat)
@[go_sem] theorem iW:Ge .run r s tm=r tm:=rfl
@[go_sem] theorem g6:Ge .skip r s tm=s tm:=rfl
@[go_sem] theorem kO:Ge (.ask true t true) r s tm=r (Ci tm t (.v (.bool true))):=rfl
@[go_sem] theorem jO:Ge (.ask false t false) r s tm=r (Ci tm t (.v (.bool false))):=rfl
@[go_sem] theorem jD:Ge (.ask true t false) r s tm=s (Ci tm t (.v (.bool true))):=rfl
@[go_sem] theorem kJ:Ge (.ask false t true) r s tm=s (Ci tm t (.v (.bool false))):=rfl
end
@[go_sem] theorem iY (k:Prop→AV→List (Nat×Ob)→Prop) (c:Nat→List AV→Prop) (p:Prop) (x:AV) (us:List (Nat×Ob)):Mn (.out p x us) k c=k p x us:=rfl
@[go_sem] theorem gI (k:Prop→AV→List (Nat×Ob)→Prop) (c:Nat→List AV→Prop) (f:Nat) (xs:List AV):Mn (.call f xs) k c=c f xs:=rfl
def T7 (P:Program) (T:Dj) (nt:Nat) (all:List Oper) (o:Oper) (nx:Nat) (tm:List (Nat×AV)) (hp:Hl) (J:Nat→List (Nat×AV)→Hl→Prop):Prop :=
 Ge (Nv all tm o.guard) (fun tm' =>Mn (Du T (Dd tm') (lk hp .nil) nx o.op) (fun p x us=>Cg nt o.dst∧p∧lk hp .nil nx= .nil∧J (nx+16) (Bz tm' o.dst x) (Eo us hp))
  (fun f xs=>Cg nt o.dst∧Ap P f xs hp nx fun x hp' =>J (nx+16) (Bz tm' o.dst x) hp')) (fun tm' =>Cg nt o.dst∧J nx (Bz tm' o.dst (.v undef)) hp) tm
theorem ZW (P:Program) (T:Dj) (nt:Nat) (all:List Oper) (o:Oper) (os:List Oper) (nx:Nat) (tm:List (Nat×AV)) (hp:Hl) (K:St→Prop):EZ P T nt all (o::os) nx tm hp K=T7 P T nt all o nx tm hp fun nx tm hp=>EZ P T nt all os nx tm hp K:=by
 rw [EZ];unfold T7;generalize Nv all tm o.guard=g;cases g with
 | ask b t want=>cases b<;>cases want<;>rfl
 | _=>rfl
theorem M6 {P:Program} {T:Dj} {nt:Nat} {all:List Oper} {o:Oper} {os:List Oper} {nx:Nat} {tm:List (Nat×AV)} {hp:Hl} {K:St→Prop}
  (h:∀J:Nat→List (Nat×AV)→Hl→Prop,(∀nx tm hp,EZ P T nt all os nx tm hp K→J nx tm hp)→T7 P T nt all o nx tm hp J):EZ P T nt all (o::os) nx tm hp K:=by
 rw [ZW];exact h _ fun _ _ _ h=>h
theorem V2 {P:Program} {T:Dj} {nt:Nat} {all:List Oper} {nx:Nat} {tm:List (Nat×AV)} {hp:Hl} {K:St→Prop} (h:K ⟨nx,tm,hp⟩):EZ P T nt all [] nx tm hp K:=h
attribute [go_sem] T7
attribute [go_sem] VN JY V6 Xg Nv Cg Du Dd lk Ci Bz Eo EM H7 PE Rs.pure Mt Fv Rs.also FA Ux FS DZ Eu Db eF NO Da U7 JL N2 iI VI JS Mq Is JW Hj Dq EF F6 Es Et Fl FV FY Gf
attribute [go_sem] Cr FK Fj IC Ud Ex frz AV.fin finL V1 GX ZG
attribute [go_sem] E7 D5 LG AV.pass passL AV.low lowL AV.nob nobL AV.ren renL AV.allT allTL HT rn PO Yh
end Go.Proofs.YthblfhgofopcaaaGreat

namespace Go.Proofs.YthblfhgofopcaaaGreat
open Go.RowKit
variable [DM]
def Dz:AV→List Nat
 | .ref r _ _ _=>[r]
 | .rsl r _ _ _=>[r]
 | _=>[]
section
variable {T:Dj} {g g' :Operand→AV} {h h' :HF} {nm:Nat}
theorem R9 {i:TI} {x:AV} (hx:∀r∈Dz x,h r=h' r):FA i h x=FA i h' x:=by
 cases x<;>simp_all [FA,Dz]
theorem O9 {i:TI} {x y:AV} (hx:∀r∈Dz x,h r=h' r):FS i h y x=FS i h' y x:=by
 cases x<;>simp_all [FS,Dz]
theorem Lf {x:AV} (hx:∀r∈Dz x,h r=h' r):Da h x=Da h' x:=by
 cases x<;>simp_all [Da,Dz]
theorem PS {x:AV} (hx:∀r∈Dz x,h r=h' r):JL h x=JL h' x:=by
 unfold JL;split<;>simp_all [Dz]
theorem TC {op:BinOp} {t:Option TI} {x y:AV} (hx:∀r∈Dz x,h r=h' r):N2 T h op t x y=N2 T h' op t x y:=by
 unfold N2;split
 ·rfl
 ·rfl
 ·rw [PS hx]
 ·rfl
 ·rfl
theorem Lm {s:Option TI} {f:Nat} {x:AV} (hx:∀r∈Dz x,h r=h' r):DZ T h s f x=DZ T h' s f x:=by
 cases x<;>simp_all [DZ,Dz]
theorem Lj {t:Option TI} {x i:AV} (hx:∀r∈Dz x,h r=h' r):Db T h t x i=Db T h' t x i:=by
 cases x<;>simp_all [Db,Dz]
theorem ST {t:Option TI} {x:AV} (hx:∀r∈Dz x,h r=h' r):PE h t x=PE h' t x:=by
 unfold PE;split<;>simp_all [Dz]
theorem LN {sz:Nat} {x:AV} (hx:∀r∈Dz x,h r=h' r):FV h sz x=FV h' sz x:=by
 unfold FV;split<;>simp_all [Dz]
theorem PC {t:Option TI} {x:AV} {lo hi mx:Option AV} (hx:∀r∈Dz x,h r=h' r):Fl T h t x lo hi mx nm=Fl T h' t x lo hi mx nm:=by
 cases x;case rsl r g o n=>have:h r=h' r:=hx r (by simp [Dz]);simp only [Fl,this]
 case v y =>
  unfold Fl;(repeat' split)<;>first | rfl | simp_all
 all_goals rfl
theorem N4 {t tx:Option TI} {a b:AV} (ha:∀r∈Dz a,h r=h' r) (hb:∀r∈Dz b,h r=h' r):FY T h t tx a b nm=FY T h' t tx a b nm:=by
 have e:∀sz,FV h sz b=FV h' sz b:=fun sz=>LN hb
 unfold FY;simp only [e];cases a;case rsl r g o n=>have:h r=h' r:=ha r (by simp [Dz]);simp only [this]
 case v y =>
  (repeat' split)<;>first | rfl | simp_all
 all_goals rfl
theorem RH {t:Option TI} {a b:AV} (ha:∀r∈Dz a,h r=h' r) (hb:∀r∈Dz b,h r=h' r):JY T h t a b=JY T h' t a b:=by
 have e:∀sz,FV h sz b=FV h' sz b:=fun sz=>LN hb
 unfold JY;simp only [e];cases a;case rsl r g o n=>have:h r=h' r:=ha r (by simp [Dz]);simp only [this]
 all_goals rfl
theorem Sf {l:List Operand} (hg:∀X∈l,g X=g' X):l.map g=l.map g' :=List.map_congr_left hg
def Bx:Op→List Operand
 | .move _=>[]
 | .assign _=>[]
 | .pick _ _ _=>[]
 | .box _ _=>[]
 | .build _ _=>[]
 | .buildSlice _ _ _=>[]
 | .load _ x=>[x]
 | .store _ a _=>[a]
 | .nilCheck x=>[x]
 | .binOp _ _ x _ _=>[x]
 | .unOp _ _ _=>[]
 | .convert _ _ _=>[]
 | .fieldAddr _ x _=>[x]
 | .field _ _ _=>[]
 | .indexAddr _ x _=>[x]
 | .index _ _ _=>[]
 | .extract _ _=>[]
 | .slice _ x _ _ _=>[x]
 | .call ⟨.builtin _,wJ,_⟩=>wJ.toList
 | .call ⟨.value f,wJ,_⟩=>f::wJ.toList
 | o=>o.operands.toList
theorem RS {op:Op} {X:Operand} (hX:X∈Bx op):X∈op.operands:=by
 cases op<;>simp only [Bx] at hX<;>try (first | (simpa using hX;done) | (simpa [Op.operands] using hX;done) | (simp only [List.mem_cons,List.not_mem_nil,or_false] at hX;subst hX;simp [Op.operands];done))
 case call cl =>
  obtain ⟨callee,args,ts⟩:=cl;cases callee with
  | builtin b=>simp only [Bx] at hX;simp only [Op.operands,Call.operands];simpa using hX
  | value f=>simp only [Bx] at hX;simp only [Op.operands,Call.operands];simpa using hX
  | invoke r m=>simpa [Bx] using hX
theorem OL {op:Op} (hg:∀X∈op.operands,g X=g' X) (hh:∀X∈Bx op,∀r∈Dz (g X),h r=h' r):Du T g h nm op=Du T g' h' nm op:=by
 have hk:∀X,X∈Bx op→∀r∈Dz (g' X),h r=h' r:=fun X hX=>by rw [←hg X (RS hX)];exact hh X hX
 have one:∀X,X∈op.operands→g X=g' X∧True:=fun X hX=>⟨hg X hX,trivial⟩
 clear hg hh;cases op<;>simp only [Op.operands] at one<;>simp only [Du];case move X=>rw [(one X (by simp)).1]
 case assign X=>rw [(one X (by simp)).1]
 case pick a b c=>rw [(one a (by simp)).1,(one b (by simp)).1,(one c (by simp)).1]
 case box t X=>rw [(one X (by simp)).1]
 case build t ps =>
  have:(ps.toList.map fun y=>(y.1,g y.2))=ps.toList.map fun y=>(y.1,g' y.2):=List.map_congr_left fun y hy=>by rw [(one y.2 (by simp only [List.mem_toArray,List.mem_map];exact ⟨y,hy,rfl⟩)).1]
  rw [this]
 case buildSlice t n ps =>
  have:(ps.toList.map fun y=>(y.1,g y.2))=ps.toList.map fun y=>(y.1,g' y.2):=List.map_congr_left fun y hy=>by rw [(one y.2 (by simp only [List.mem_toArray,List.mem_map];exact ⟨y,hy,rfl⟩)).1]
  rw [this]
 case load t a =>
  have e:=(one a (by simp)).1;have k:=hk a (by simp [Bx]);rw [e];split
  ·exact R9 k
  ·rfl
 case store t a x =>
  have e:=(one a (by simp)).1;have k:=hk a (by simp [Bx]);rw [e,(one x (by simp)).1];split
  ·exact O9 k
  ·rfl
 case nilCheck X =>
  have e:=(one X (by simp)).1;have k:=hk X (by simp [Bx]);rw [e];exact Lf k
 case binOp o t x y _ =>
  have e:=(one x (by simp)).1;have k:=hk x (by simp [Bx]);rw [e,(one y (by simp)).1];exact TC k
 case unOp _ _ X=>rw [(one X (by simp)).1]
 case convert _ _ X=>rw [(one X (by simp)).1]
 case makeFunc fn first cap =>
  rw [Sf (g:=g) (g' :=g') fun X hX=>(one X (by simp at hX;simp [hX])).1,Sf (g:=g) (g' :=g') fun X hX=>(one X (by simp at hX;simp [hX])).1]
 case makeSlice t l cp=>rw [(one l (by simp)).1,(one cp (by simp)).1]
 case slice t x lo hi mx =>
  have e:=(one x (by simp)).1;have k:=hk x (by simp [Bx]);have e1:lo.map g=lo.map g' :=by cases lo<;>simp_all
  have e2:hi.map g=hi.map g' :=by cases hi<;>simp_all
  have e3:mx.map g=mx.map g' :=by cases mx<;>simp_all
  rw [e,e1,e2,e3];exact PC k
 case fieldAddr s x f =>
  have e:=(one x (by simp)).1;have k:=hk x (by simp [Bx]);rw [e];exact Lm k
 case field s x f=>rw [(one x (by simp)).1]
 case indexAddr t x i =>
  have e:=(one x (by simp)).1;have k:=hk x (by simp [Bx]);rw [e,(one i (by simp)).1];exact Lj k
 case index t x i=>rw [(one x (by simp)).1,(one i (by simp)).1]
 case extract x i=>rw [(one x (by simp)).1]
 case call cl =>
  obtain ⟨callee,args,ts⟩:=cl;have hb:∀X,X∈args.toList→g X=g' X∧True:=fun X hX=>one X (by simp only [Call.operands];simp at hX;simp [hX])
  cases callee with
  | builtin b =>
   have ha:∀X,X∈args.toList→g X=g' X∧∀r∈Dz (g' X),h r=h' r:=fun X hX=>⟨(hb X hX).1,hk X (by simpa only [Bx] using hX)⟩
   cases b<;>simp only [H7];case len =>
    split
    ·rename_i a t l h1 h2;obtain ⟨e,k⟩:=ha a (by simp [h1]);rw [e];exact ST k
    ·rfl
   case append =>
    split
    ·rename_i a b t tx h1 h2;obtain ⟨e,k⟩:=ha a (by simp [h1]);obtain ⟨e',k'⟩:=ha b (by simp [h1]);rw [e,e'];exact N4 k k'
    ·rfl
   case cap =>
    split
    ·rename_i a t l h1 h2;rw [(ha a (by simp [h1])).1]
    ·rfl
   case copy =>
    split
    ·rename_i a b t l h1 h2;obtain ⟨e,k⟩:=ha a (by simp [h1]);obtain ⟨e',k'⟩:=ha b (by simp [h1]);rw [e,e'];exact RH k k'
    ·rfl
   case min =>
    split
    ·rename_i a b h1;rw [(ha a (by simp [h1])).1,(ha b (by simp [h1])).1]
    ·rfl
   case max =>
    split
    ·rename_i a b h1;rw [(ha a (by simp [h1])).1,(ha b (by simp [h1])).1]
    ·rfl
  | value f =>
   simp only [H7];rw [(one f (by simp [Call.operands])).1,Sf (g:=g) (g' :=g') fun X hX=>(hb X hX).1]
  | invoke r m=>rfl
end
def Ft:Op→Bool
 | .store _ _ _=>true
 | .call ⟨.builtin .len,_,_⟩=>false
 | .call _=>true
 | _=>false
def VH (nm:Nat) (r:Rs):Prop:=match r with
 | .bad=>True
 | .out _ _ us=>∀u∈us,u.1=nm
 | .call _ _=>False
section
variable {T:Dj} {g:Operand→AV} {h:HF} {nm:Nat}
theorem Bs (x:AV):VH nm (.pure x):=fun u hu=>by cases hu
theorem Cj (p:Prop) (x:AV):VH nm (.out p x []):=fun u hu=>by cases hu
theorem Hv (p:Prop) (x:AV) (ob:Ob):VH nm (.out p x [(nm,ob)]):=fun u hu=>by simp at hu;rw [hu]
theorem Vb (i:TI) (sz:Nat) (e:AV) (j:Nat) (q:Prop):VH nm (.also q (Fv i sz e j))∧VH nm (Fv i sz e j):=by
 unfold Fv;(repeat' split)<;>exact ⟨by first | trivial | exact Cj _ _,by first | trivial | exact Cj _ _⟩
theorem Pv {op:Op} (he:Ft op=false):VH nm (Du T g h nm op):=by
 cases op<;>simp only [Du]<;>try trivial
 case move=>exact Bs _
 case assign=>exact Bs _
 case pick=>unfold Mt;(repeat' split)<;>first | trivial | exact Bs _
 case alloc=>split<;>first | trivial | exact Hv _ _ _
 case box=>exact Hv _ _ _
 case build=>unfold JW;(repeat' split)<;>first | trivial | exact Cj _ _
 case buildSlice=>unfold Dq;(repeat' split)<;>first | trivial | exact Hv _ _ _
 case load=>unfold FA;(repeat' split)<;>first | trivial | exact (Vb _ _ _ _ _).1
 case nilCheck=>unfold Da;(repeat' split)<;>first | trivial | exact Cj _ _ | exact Bs _
 case binOp =>
  unfold N2 U7;(repeat' split)<;>first | trivial | exact Cj _ _ | exact Bs _
 case unOp=>unfold eF;(repeat' split)<;>first | trivial | exact Cj _ _ | exact Bs _
 case convert=>unfold NO;(repeat' split)<;>first | trivial | exact Cj _ _ | exact Bs _
 case makeFunc=>unfold Es;(repeat' split)<;>first | trivial | exact Cj _ _ | exact Bs _
 case makeSlice=>unfold EF;(repeat' split)<;>first | trivial | exact Hv _ _ _
 case slice=>unfold Fl;(repeat' split)<;>first | trivial | exact Cj _ _ | exact Bs _ | exact Hv _ _ _
 case fieldAddr=>unfold DZ;(repeat' split)<;>first | trivial | exact Cj _ _ | exact Bs _
 case field=>unfold Eu;(repeat' split)<;>first | trivial | exact Cj _ _ | exact Bs _
 case indexAddr=>unfold Db;(repeat' split)<;>first | trivial | exact Cj _ _ | exact Bs _
 case index=>unfold JS;(repeat' split)<;>first | trivial | exact Cj _ _ | exact Bs _
 case extract=>unfold F6;(repeat' split)<;>first | trivial | exact Cj _ _ | exact Bs _
 case call cl =>
  obtain ⟨callee,args,ts⟩:=cl;cases callee with
  | builtin b =>
   cases b<;>simp only [Ft] at he<;>try cases he
   simp only [H7];unfold PE;(repeat' split)<;>first | trivial | exact Cj _ _ | exact Bs _
  | _=>cases he
end
end Go.Proofs.YthblfhgofopcaaaGreat

namespace Go.Proofs.YthblfhgofopcaaaGreat
open Go.RowKit
variable [DM]
abbrev TF:=Nat→AV
def N1 (f:TF):Operand→AV
 | .tmp t=>f t
 | .const x=> .v x
 | .global n=> .v (.pointer (some ⟨n,0,none⟩))
 | .func k=> .clo k []
theorem SX (tm:List (Nat×AV)):Dd tm=N1 (lk tm .any):=by funext X;cases X<;>rfl
def fS (ops:List Oper) (f:TF):Option (Nat×Bool)→Gd
 | none=> .run
 | some (i,want)=>match ops[i]? with
  | some o=>match o.dst with
   | some t=>match f t with
    | .v (.bool b)=> .ask b t want
    | .v (.tuple _)=> .skip
    | _=> .bad
   | none=> .skip
  | none=> .skip
theorem gY (ops:List Oper) (tm:List (Nat×AV)) (g:Option (Nat×Bool)):Nv ops tm g=fS ops (lk tm .any) g:=by
 cases g<;>rfl
def QG (ops:List Oper) (f:TF) (o:Oper):Option Bool:=match fS ops f o.guard with
 | .run=>some true
 | .skip=>some false
 | .ask b _ want=>some (b==want)
 | .bad=>none
def E1 (f:TF) (dst:Option Nat) (x:AV):TF:=match dst with
 | some d=>fun t=>if d=t then x else f t
 | none=>f
theorem Zp (tm:List (Nat×AV)) (dst:Option Nat) (x:AV):lk (Bz tm dst x) .any=E1 (lk tm .any) dst x:=by
 cases dst with
 | none=>rfl
 | some d=>funext t;exact GV tm .any d x t
theorem MA (tm:List (Nat×AV)) {t:Nat} {x:AV} (h:lk tm .any t=x):lk (Ci tm t x) .any=lk tm .any:=by
 funext s;rw [GV];split
 ·rename_i hs;subst hs;exact h.symm
 ·rfl
structure Hq (c0:Cx) (h0:HF) (nt:Nat) (f:TF) (h:HF) (c:Cx) (a:Act):Prop where
 kp:Bj c0 h0 c h
 hp:BH c h
 sz:a.tmps.size=nt
 df:a.defers=[]
 tm:∀t,AS c h (f t) (a.tmps.getD t undef)
section
variable {P:Program} {T:Dj} {c0 c:Cx} {h0 h:HF} {nt:Nat} {f:TF} {a:Act}
theorem Hq.to {nx:Nat} {tm:List (Nat×AV)} {hp:Hl} (r:Hq c0 h0 nt (lk tm .any) (lk hp .nil) c a):V3 c0 h0 nt ⟨nx,tm,hp⟩ c a:=⟨r.kp,r.hp,⟨r.sz,r.df,r.tm⟩⟩
theorem Hq.ev (r:Hq c0 h0 nt f h c a) (X:Operand):AS c h (N1 f X) (a.eval X):=by
 cases X with
 | tmp t=>exact r.tm t
 | const x=>exact .v x
 | global n=>exact .v _
 | func f=>exact .clo f [] #[] rfl fun i x y hx=>by simp at hx
theorem Hq.put {c' :Cx} {h' :HF} {dst:Option Nat} {x:AV} {y:Value} (r:Hq c0 h0 nt f h c a) (k:Bj c h c' h') (hh:BH c' h') (hx:AS c' h' x y) (hd:Cg nt dst):Hq c0 h0 nt (E1 f dst x) h' c' (a.put dst y):=by
 cases dst with
 | none=>exact ⟨r.kp.trans k,hh,r.sz,r.df,fun t=>(r.tm t).ext k.ext⟩
 | some d =>
  have hd' :d<a.tmps.size:=by rw [r.sz];exact hd
  refine ⟨r.kp.trans k,hh,by simp [Act.put,r.sz],by simp [Act.put,r.df],fun t=> ?_⟩;simp only [E1,Act.put];by_cases h:d=t
  ·subst h;rw [if_pos rfl];simp [Array.getD_eq_getD_getElem?,hd',hx]
  ·rw [if_neg h];have:=(r.tm t).ext k.ext;simpa [Array.getD_eq_getD_getElem?,Array.getElem?_setIfInBounds_ne h] using this
theorem Hq.less {f' :TF} (r:Hq c0 h0 nt f h c a) (hf:∀t,f' t= .any∨f' t=f t):Hq c0 h0 nt f' h c a:=⟨r.kp,r.hp,r.sz,r.df,fun t=>by
 rcases hf t with e | e<;>rw [e]
 ·exact .any _
 ·exact r.tm t⟩
theorem Hq.wanted {all:List Oper} {o:Oper} {b:Bool} (r:Hq c0 h0 nt f h c a) (hw:QG all f o=some b):Region.wanted o (yielded all.toArray a.tmps)=b:=by
 unfold QG fS at hw;unfold Region.wanted;cases hgd:o.guard with
 | none=>rw [hgd] at hw;injection hw with hw
 | some gw =>
  rw [hgd] at hw;obtain ⟨i,want⟩:=gw;simp only at hw ⊢;unfold yielded;cases ho:all[i]? with
  | none=>rw [ho] at hw;simp at hw;subst hw;simp [ho]
  | some o' =>
   rw [ho] at hw;simp only at hw;cases hdst:o'.dst with
   | none=>rw [hdst] at hw;simp at hw;subst hw;simp [ho,hdst]
   | some t =>
    rw [hdst] at hw;simp only at hw;have hv:=r.tm t;by_cases hlt:t<a.tmps.size
    ·have hat:a.tmps.getD t undef=a.tmps[t]:=by simp [Array.getD_eq_getD_getElem?,hlt]
     rw [hat] at hv;cases hb:f t with
     | v x =>
      rw [hb] at hv hw;have:=As hv;cases x with
      | bool b' =>
       simp only at hw;injection hw with hw
       subst hw;simp only [List.getElem?_toArray,ho,Option.bind_some,hdst,hlt,getElem?_pos,this];cases b' <;>cases want<;>rfl
      | tuple vs=>simp only at hw;injection hw with hw;subst hw;simp only [List.getElem?_toArray,ho,Option.bind_some,hdst,hlt,getElem?_pos,this];rfl
      | _=>cases hw
     | _=>rw [hb] at hw;cases hw
    ·have hat:a.tmps.getD t undef=undef:=by simp [Array.getD_eq_getD_getElem?,hlt]
     rw [hat] at hv;have hno:a.tmps[t]? =none:=Array.getElem?_eq_none (Nat.le_of_not_lt hlt);cases hb:f t with
     | v x =>
      rw [hb] at hv hw;have:=As hv;cases x with
      | bool b=>cases this
      | tuple vs=>simp only at hw;injection hw with hw;subst hw;simp only [List.getElem?_toArray,ho,Option.bind_some,hdst,hno];rfl
      | _=>cases hw
     | _=>rw [hb] at hw;cases hw
theorem Rh (hT:CQ P T) {o:Oper} {nm:Nat} {p:Prop} {x:AV} {us:List (Nat×Ob)} (r:Hq c0 h0 nt f h c a) (hr:Du T (N1 f) h nm o.op= .out p x us) (hq:p) (hn:h nm= .nil) (hd:Cg nt o.dst)
  {Q:Exit→Act→World→Prop} {N:Act→World→Prop} (hK:∀y c',Hq c0 h0 nt (E1 f o.dst x) (Bc us h) c' (a.put o.dst y)→N (a.put o.dst y) c'.w):o.wp P a c.w N Q:=by
 obtain ⟨y,c',hrun,h1,h2,h3⟩:=Wn hT r.hp r.ev hn hr hq;have:=r.put h1 h2 h3 hd;unfold Oper.wp;rcases hrun with hrun | ⟨hrun,rfl⟩
 ·rw [hrun];exact hK y c' this
 ·rw [hrun];exact hK undef c' this
end
def PR:Op→List Operand
 | .move x=>[x]
 | .assign x=>[x]
 | .pick c a b=>[c,a,b]
 | .box _ x=>[x]
 | .build _ ps=>ps.toList.map (·.2)
 | .buildSlice _ _ ps=>ps.toList.map (·.2)
 | .load _ x=>[x]
 | .store _ a x=>[a,x]
 | .nilCheck x=>[x]
 | .binOp _ _ x y _=>[x,y]
 | .unOp _ _ x=>[x]
 | .convert _ _ x=>[x]
 | .fieldAddr _ x _=>[x]
 | .field _ x _=>[x]
 | .indexAddr _ x i=>[x,i]
 | .index _ x i=>[x,i]
 | .extract x _=>[x]
 | .slice _ x l h m=>x::(l.toList++(h.toList++m.toList))
 | .call ⟨.builtin _,wJ,_⟩=>wJ.toList
 | .call ⟨.value f,wJ,_⟩=>f::wJ.toList
 | o=>o.operands.toList
theorem Mf {op:Op} {X:Operand} (hX:X∈op.operands):X∈PR op:=by
 cases op<;>simp only [Op.operands] at hX<;>simp only [PR]<;>try (first | (simpa using hX;done) | (simpa [Op.operands] using hX;done))
 case call cl =>
  obtain ⟨callee,args,ts⟩:=cl;cases callee with
  | builtin b=>simp [Call.operands] at hX;simpa [PR] using hX
  | value f=>simp [Call.operands] at hX;simpa [PR] using hX
  | invoke r m=>simp [Call.operands] at hX;simpa [PR,Op.operands,Call.operands] using hX
theorem XE {op:Op} {X:Operand} (hX:X∈Bx op):X∈PR op:=Mf (RS hX)
def RL:List Operand→List Nat
 | []=>[]
 | .tmp t::l=>t::RL l
 | _::l=>RL l
theorem Uw {l:List Operand} {t:Nat} (h:Operand.tmp t∈l):t∈RL l:=by
 induction l with
 | nil=>cases h
 | cons X l ih =>
  rcases List.mem_cons.1 h with rfl | h'
  ·exact List.mem_cons_self
  ·clear h;cases X<;>simp only [RL]<;>first | exact ih h' | exact List.mem_cons_of_mem _ (ih h')
def g5 (all:List Oper) (o:Oper):List Nat:=match o.guard with
 | none=>[]
 | some (i,_)=>match all[i]? with
  | some o' =>match o'.dst with
   | some t=>[t]
   | none=>[]
  | none=>[]
def Ga (all:List Oper) (o:Oper):List Nat:=RL (PR o.op)++g5 all o
theorem KM {all:List Oper} {o:Oper} {f f' :TF} (hf:∀t∈Ga all o,f t=f' t) {X:Operand} (hX:X∈PR o.op):N1 f X=N1 f' X:=by
 cases X<;>try rfl
 exact hf _ (List.mem_append_left _ (Uw hX))
theorem KU {all:List Oper} {o:Oper} {f f' :TF} (hf:∀t∈Ga all o,f t=f' t):QG all f o=QG all f' o:=by
 have key:fS all f o.guard=fS all f' o.guard:=by
  have hg:∀t∈g5 all o,f t=f' t:=fun t ht=>hf t (List.mem_append_right _ ht)
  unfold g5 at hg;unfold fS;cases hgd:o.guard with
  | none=>rfl
  | some gw =>
   obtain ⟨i,want⟩:=gw;rw [hgd] at hg;cases ho:all[i]? with
   | none=>simp [ho]
   | some o' =>
    cases hdst:o'.dst with
    | none=>simp [ho,hdst]
    | some t=>simp only [ho,hdst] at hg ⊢;rw [hg t List.mem_cons_self]
 unfold QG;rw [key]
def Lv (ms:List Nat) (i j:Nat):Bool:=((ms[j]?).getD 0).testBit i
def gH (ms:List Nat):List Edge→Nat
 | []=>0
 | e::l=>if Region.binds .any e=true then (2 ^ e.on ||| (ms[e.on]?).getD 0) ||| gH ms l else gH ms l
theorem aR {ms:List Nat} {l:List Edge} {i:Nat} (h:(gH ms l).testBit i=true):∃e∈l,Region.binds .any e=true∧(e.on=i∨Lv ms i e.on=true):=by
 induction l with
 | nil=>simp [gH] at h
 | cons e l ih =>
  simp only [gH] at h;split at h
  ·rename_i hb;rw [Nat.testBit_or,Nat.testBit_or,Bool.or_eq_true,Bool.or_eq_true,Nat.testBit_two_pow] at h;rcases h with (h | h) | h
   ·exact ⟨e,List.mem_cons_self,hb, .inl (by simpa using h)⟩
   ·exact ⟨e,List.mem_cons_self,hb, .inr h⟩
   ·obtain ⟨e',h1,h2⟩:=ih h;exact ⟨e',List.mem_cons_of_mem _ h1,h2⟩
  ·obtain ⟨e',h1,h2⟩:=ih h;exact ⟨e',List.mem_cons_of_mem _ h1,h2⟩
def WZ (all:List Oper) (oi oj:Oper):Bool:=match oj.dst with
 | none=>false
 | some d=>(Ga all oi).contains d || oi.dst==some d
def I2 (all:List Oper) (oi oj:Oper):Bool:=match oi.dst with
 | none=>false
 | some d=>(Ga all oj).contains d
def Kl (all:List Oper) (ms:List Nat) (j:Nat) (oj:Oper) (rest:List Nat) (i:Nat):Bool:=match all[i]? with
 | none=>false
 | some oi=>(!Ft oi.op || Lv ms i j)&&(!I2 all oi oj || Lv ms i j)&&(!WZ all oi oj || (j::rest).all fun j' =>Lv ms i j')
def Hg (all:List Oper) (ms:List Nat):List Nat→List Nat→Bool
 | _,[]=>true
 | pre,j::rest=>match all[j]? with
  | none=>false
  | some oj=> !pre.contains j&& !I2 all oj oj&&(oj.after.toList.all fun e=> !Region.binds .any e || pre.contains e.on)&&pre.all (Kl all ms j oj rest)&&Hg all ms (j::pre) rest
def aE (ms:List Nat):List Nat→List Oper→Bool
 | [],[]=>true
 | m::l,o::os=>m==gH ms o.after.toList&&aE ms l os
 | _,_=>false
def KY (all:List Oper) (ord ms:List Nat):Bool:=Hg all ms [] ord&&(List.range all.length).all (fun j=>ord.contains j)&&aE ms ms all
theorem cS {ms l:List Nat} {os:List Oper} (h:aE ms l os=true) {j:Nat} {o:Oper} (ho:os[j]? =some o):(l[j]?).getD 0=gH ms o.after.toList:=by
 induction l generalizing os j with
 | nil=>cases os with
  | nil=>simp at ho
  | cons=>cases h
 | cons m l ih=>cases os with
  | nil=>simp at ho
  | cons o' os =>
   simp only [aE,Bool.and_eq_true,beq_iff_eq] at h;cases j with
   | zero=>simp at ho;subst ho;simp [h.1]
   | succ j=>simpa using ih h.2 (by simpa using ho)
mutual
def AV.away (r:Nat):AV→Bool
 | .any=>true
 | .v _=>true
 | .agg l=>awayL r l
 | .tup l=>awayL r l
 | .sl _ _ es=>awayL r es
 | .isp _ _ es _ _=>awayL r es
 | .ref _ _ _ _=>true
 | .rsl s _ _ _=>s != r
 | .clo _ l=>awayL r l
def awayL (r:Nat):List AV→Bool
 | []=>true
 | x::l=>x.away r&&awayL r l
end
def UQ (r:Nat):Ob→Bool
 | .arr _ _ es=>awayL r es
 | _=>true
mutual
theorem Sq {inv:Nat→Option Nat} {h h' :HF}:∀(x:AV),(∀r,x.away r=true∨h r=h' r)→x.pass inv h=x.pass inv h'
 | .any,_=>rfl
 | .v _,_=>rfl
 | .agg l,k=>by simp only [AV.pass];rw [passL_congr l k]
 | .tup l,k=>by simp only [AV.pass];rw [passL_congr l k]
 | .sl _ _ es,k=>by simp only [AV.pass];rw [passL_congr es k]
 | .isp _ _ es _ _,k=>by simp only [AV.pass];rw [passL_congr es k]
 | .ref _ _ _ _,_=>rfl
 | .rsl s g o n,k=>by
  have:h s=h' s:=by
   rcases k s with k | k
   ·simp [AV.away] at k
   ·exact k
  simp only [AV.pass,this]
 | .clo _ l,k=>by simp only [AV.pass];rw [passL_congr l k]
theorem passL_congr {inv:Nat→Option Nat} {h h' :HF}:∀(l:List AV),(∀r,awayL r l=true∨h r=h' r)→passL inv h l=passL inv h' l
 | [],_=>rfl
 | x::l,k=>by
  simp only [passL];rw [Sq x fun r=>(k r).imp (fun e=>by simp only [awayL,Bool.and_eq_true] at e;exact e.1) id,passL_congr l fun r=>(k r).imp (fun e=>by simp only [awayL,Bool.and_eq_true] at e;exact e.2) id]
end
theorem LR {inv:Nat→Option Nat} {h h' :HF}:∀(i:Nat) (ρ:List Nat),(∀s∈ρ,h s=h' s)→(∀r,(∀s∈ρ,UQ r (h s)=true)∨h r=h' r)→D5 inv h i ρ=D5 inv h' i ρ
 | _,[],_,_=>rfl
 | i,s::ρ,k1,k2=>by
  simp only [D5];rw [LR (i+1) ρ (fun s hs=>k1 s (List.mem_cons_of_mem _ hs)) (fun r=>(k2 r).imp (fun e s hs=>e s (List.mem_cons_of_mem _ hs)) id)];have:LG inv h (h s)=LG inv h' (h' s):=by
   rw [←k1 s List.mem_cons_self];cases hs:h s with
   | arr g sz es =>
    simp only [LG];rw [passL_congr es fun r=>(k2 r).imp (fun e=>by have:=e s List.mem_cons_self;rw [hs] at this;exact this) id]
   | _=>rfl
  rw [this]
end Go.Proofs.YthblfhgofopcaaaGreat
