/-
  Parts of the proof: Apart, CatV, RdM.
-/
import Derived.Test.YthblfhgofopcaaaGreatSH13
import Derived.Test.YthblfhgofopcaaaGreatSH14
import Derived.Test.YthblfhgofopcaaaGreatFO02
import Derived.Test.YthblfhgofopcaaaGreatSH20
import Derived.Test.YthblfhgofopcaaaGreatSH15
import Derived.Lib.AppendZerosOnto
import Derived.Lib.SliceRun
import Derived.Lib.Walk
import Derived.Test.YthblfhgofopcaaaGreatFO03
import Derived.Test.YthblfhgofopcaaaGreatSH17
set_option linter.all false
namespace Go.Proofs.YthblfhgofopcaaaGreat
open Go.RowKit
set_option maxRecDepth 100000
set_option maxHeartbeats 2000000
def QB (wh:Int):Nat:=if wh=1 then 133 else if wh=2 then 134 else if wh=3 then 135 else if wh=4 then 136 else if wh=5 then 137 else 138
def He (s:AL) (f:Fm):Int:=if f.wh=1 then s.me else if f.wh=5 then s.me-3 else 0
set_option maxHeartbeats 4000000 in
theorem Mj (s:AL) (f:Fm) (h:Hd) (c:List (List Gp)) (hw:1≤f.wh∧f.wh≤6) (hme:1≤s.me∧s.me≤4) (hml:h.me.length≤1000) (CJ:(h.me.length:Int)≤He s f→AM Tryz.prog (QB f.wh) [Ar s f h] (EG false c)):AM Tryz.prog 88 [AO s,DN false f,Cb false h] (EG false (if (h.me.length:Int)≤He s f then c else [])):=by
 refine Ba ?_;have hw' :f.wh=1∨f.wh=2∨f.wh=3∨f.wh=4∨f.wh=5∨f.wh=6:=by omega
 by_cases hl:(h.me.length:Int)≤He s f
 ·rw [if_pos hl];replace CJ:=CJ hl;unfold He at hl;unfold QB at CJ;rcases hw' with e|e|e|e|e|e;all_goals
   simp only [Ar,e] at hl CJ;simp (decide:=true) only [↓reduceIte] at hl CJ;refine zb Tryz.ntmps88 ?_;let tb:=YX;let lv:=UU;(have fa:=(And.intro @Ar.eq_1 e);(repeat' first|refine zS CJ ?_|refine zQ ?_|refine zN ?_;intro K hC hK|refine zM ?_;try clear hK hC K|refine zC ?_ ?_<;>intro hb|refine zK ?_;intro Jo JU JC AH AJ AG)<;>(try clear fa))
   all_goals first
    | (exfalso;omega)
    | (refine Aa [] ?_ ?_<;>(first|exact AK|refine zE ?_);exact .rfl')
    | trace_state
 ·rw [if_neg hl];unfold He at hl;clear CJ;rcases hw' with e|e|e|e|e|e;all_goals
   simp only [e] at hl;simp (decide:=true) only [↓reduceIte] at hl;refine zb Tryz.ntmps88 ?_;let tb:=YX;let lv:=UU;(have fa:=e;(repeat' first|refine zQ ?_|refine zN ?_;intro K hC hK|refine zM ?_;try clear hK hC K|refine zC ?_ ?_<;>intro hb|refine zK ?_;intro Jo JU JC AH AJ AG)<;>(try clear fa))
   all_goals first
    | (exfalso;omega)
    | (refine Aa [] ?_ ?_<;>(first|exact AK|refine zE ?_);exact An.nil _ _)
    | trace_state
theorem eM:(Tryz.prog.info? 72).map (fun i=>(i.zero,i.size,i.bytes))=some (some (.agg #[.int .i64 0, .int .i64 0, .bool false]),3,24):=by kernel_rfl
theorem VY (n:Nat) (w:World) (hp:0<n) (hn:n≤1000000):Calls Tryz.prog 139 #[.slice none 0 0, .int .i64 (n:Int)] w fun e w' =>∃G cells,e= .returned (.slice (some ⟨w.heap.size,0,none⟩) 0 G)∧w' =w.drew.alloc (.cells cells 72)∧G≤maxLen∧cells.size=G*3:=by
 have hinf:=eM;cases hi0:Tryz.prog.info? 72 with
 | none=>rw [hi0] at hinf;cases hinf
 | some i0 =>
 rw [hi0] at hinf;simp only [Option.map_some,Option.some.injEq,Prod.mk.injEq] at hinf;obtain ⟨hz0,hz1,hz2⟩:=hinf;have hold:(Builtin.firstCells i0.size 0 (.slice none 0 0)).run Tryz.prog w.drew= .ok #[] w.drew:=run_firstCells_none w.drew i0.size 0 0 0;have hrz:=fun ty=>Lib.run_append_grow_zeros (P:=Tryz.prog) w 29 3 ty 72 i0 _ .i64 .i64 Tryz.underlying29 Tryz.underlying3 hi0 hz0 none 0 0 [] hold n hp (by omega) (by omega) (by omega) (by rw [hz2];omega) (by rw [Nat.zero_add,hz2];exact JT (by omega) (by omega) (by omega))
 simp only [Nat.zero_add] at hrz;have hge:=grownCap_ge w n 0 72;have hG63:=grownCap_le_maxLen w n 0 72 (by unfold maxLen;omega);obtain ⟨G,hG⟩:∃G,G=grownCap w n 0 72:=⟨_,rfl⟩;rw [←hG] at hrz hge hG63;generalize hcells:(#[]++Builtin.zeroCells (Value.agg #[Value.int IntKind.i64 0,Value.int IntKind.i64 0,Value.bool false]).cells n++Builtin.zeroCells (Value.agg #[Value.int IntKind.i64 0,Value.int IntKind.i64 0,Value.bool false]).cells (G-n):Array Value)=cells at hrz;have hcs:cells.size=G*3:=by
  have z3:∀m,(Builtin.zeroCells (Value.agg #[Value.int IntKind.i64 0,Value.int IntKind.i64 0,Value.bool false]).cells m).size=m*3:=fun m=>by simp [Builtin.zeroCells,Value.cells]
  rw [←hcells,Array.size_append,Array.size_append,z3,z3];simp;omega
 have HRZ:=BP hrz;have FIN:=BP (show ∃G' cells',Ending.returned (Value.slice (some ⟨w.heap.size,0,none⟩) 0 G)=Ending.returned (.slice (some ⟨w.heap.size,0,none⟩) 0 G')∧w.drew.alloc (.cells cells 72)=w.drew.alloc (.cells cells' 72)∧G' ≤maxLen∧cells'.size=G' *3 from ⟨G,cells,rfl,rfl,hG63,hcs⟩);have G0:(0:Int)≤(G:Int):=by omega
 unfold maxLen at hG63;clear hold hG hrz hcells;have n0:(0:Int)<(n:Int):=by omega
 go_enter Tryz.func139,Tryz.ntmps139;go_wp2_with (at_builtin;refine Lib.wpList_append_run _ rfl _ _ _ _ rfl _ _ rfl rfl _ _ (HRZ.out _) ?_);go_ret;exact FIN.out
theorem Xz (n:Nat) (hp:0<n) (hn:n≤1000000):Je Tryz.prog 139 [Bw,I n] (.rsl 0 0 0 0) [(0, .arr 0 3 [])]:=by
 refine ⟨⟨_,_,Tryz.func139,rfl,rfl⟩,fun c vals hn0 hh hx=> ?_⟩;obtain ⟨v,v',rfl,k1,k2⟩:=IJ hx;have e1:=As k1;have e2:=As k2;subst e1 e2;refine (VY n c.w hp hn).mono ?_;rintro e w' ⟨G,cells,rfl,rfl,h1,h2⟩;have hD:BH { c with w:=c.w.drew } (lk [] .nil):=hh.keep_drew;have hKD:Bj c (lk [] .nil) { c with w:=c.w.drew } (lk [] .nil):=Bj.grow ((Aw.refl _).drew) (.inr (Nat.le_succ _));obtain ⟨K,H,q1⟩:=Ja hD (nm:=0) rfl 3 [] cells 72 (by simp) (fun i e h=>by simp at h) (fun i e j x h=>by simp at h);have eh:lk [(0,Ob.arr 0 3 [])] .nil=Bc [(0, .arr 0 3 [])] (lk [] .nil):=by
  funext r;by_cases hr:r=0
  ·subst hr;simp [lk,Bc]
  ·simp [lk,Bc,hr,Ne.symm hr]
 obtain ⟨c',hw,K',H',r1,b1⟩:∃c' :Cx,c'.w=c.w.drew.alloc (.cells cells 72)∧Bj c (lk [] .nil) c' (lk [(0,Ob.arr 0 3 [])] .nil)∧BH c' (lk [(0,Ob.arr 0 3 [])] .nil)∧c'.rl 0=true∧c'.bl 0=c.w.heap.size:=by
  rw [eh];exact ⟨_,rfl,hKD.trans K,H,by simp,by simp⟩
 refine ⟨_,_,_,c',rfl,hw,⟨rfl,rfl⟩,K',H', .rsl _ _ _ _ _ rfl ?_⟩;refine ⟨Nat.le_refl _,fun _=>⟨_,_,rfl,Nat.zero_le _,h1,fun _=>⟨r1,by rw [b1],cells,72,?_,?_⟩⟩⟩
 ·rw [hw,b1];exact heap_alloc_new c.w.drew _
 ·rw [h2];simp
def Qs (a b:List Gp):Nat→List Gp
 | 0=>[]
 | 1=>a
 | _=>a++b
set_option maxHeartbeats 2000000 in
theorem QO (a b:List Gp) (h0:0<a.length+b.length) (hl:a.length+b.length≤1000000):AM Tryz.prog 89 [.sl false 1 [AX false a,AX false b]] (AX true (a++b)):=by
 have CG:=Xz (a.length+b.length) h0 hl;have p0:Qs a b 0=[]:=rfl;have p1:Qs a b 1=a:=rfl;have p1' :Qs a b (0+1)=a:=rfl;have p2:Qs a b 2=a++b:=rfl;have p2' :Qs a b (1+1)=a++b:=rfl;have hab:(a++b).length=a.length+b.length:=by simp
 refine zb Tryz.ntmps89 ?_;let tb:=fE;let lv:=Zd;(repeat' first|refine zQ ?_|refine zN ?_;intro K hC hK|refine zM ?_;try clear hK hC K|refine zC ?_ ?_<;>intro hb|refine zK ?_;intro Jo JU JC AH AJ AG)
 refine Ab 2 (fun j σ=>σ=⟨900,[(0, .sl false 1 [AX false a,AX false b]),(3,I (Qs a b j).length),(9, .sl false 1 [AX false a,AX false b]),(10,I 2),(11,I j)],[]⟩) [] [] 0 [0,3,9,10,11] 900 zf zf (by (have fa:=(And.intro p0 @List.length_nil.{0});exact zV)) ?_;rintro j σ' hj rfl J hcJ hJ;have hj3:j=0∨j=1∨j=2:=by omega
 rcases hj3 with rfl|rfl|rfl
 ·(have fa:=(And.intro p0 @List.length_nil.{0});(repeat' first|refine zQ ?_|refine zN ?_;intro K hC hK|refine zM ?_;try clear hK hC K|refine zC ?_ ?_<;>intro hb|refine zK ?_;intro Jo JU JC AH AJ AG)<;>(try clear fa))
  exact hJ _ (by omega) (by (have fa:=(And.intro p1' Int.zero_add);exact zV))
 ·(have fa:=p1;(repeat' first|refine zQ ?_|refine zN ?_;intro K hC hK|refine zM ?_;try clear hK hC K|refine zC ?_ ?_<;>intro hb|refine zK ?_;intro Jo JU JC AH AJ AG)<;>(try clear fa))
  exact hJ _ (by omega) (by (have fa:=(And.intro p2' (And.intro hab Int.natCast_add));exact zV))
 ·(have fa:=(And.intro p2 hab);(repeat' first|refine zO CG ?_|refine zQ ?_|refine zN ?_;intro K hC hK|refine zM ?_;try clear hK hC K|refine zC ?_ ?_<;>intro hb|refine zK ?_;intro Jo JU JC AH AJ AG)<;>(try clear fa))
  refine Ab 2 (fun j σ=>∃g,σ=⟨1900,[(6, .rsl 0 g 0 (Qs a b j).length),(25, .sl false 1 [AX false a,AX false b]),(26,I 2),(27,I j)],[(0, .arr g 3 ((Qs a b j).map AZ))]⟩) [(932,0)] [(0,0)] 0 [6,25,26,27] 1900 zf zf ⟨0,by (have fa:=(And.intro p0 (And.intro @List.length_nil.{0} @List.map_nil.{0,0}));exact zV)⟩ ?_;rintro j σ' hj ⟨g,rfl⟩ J hcJ hJ;have hj3:j=0∨j=1∨j=2:=by omega
  rcases hj3 with rfl|rfl|rfl
  ·(have fa:=(And.intro p0 (And.intro @List.length_nil.{0} @List.map_nil.{0,0}));(repeat' first|refine zQ ?_|refine zN ?_;intro K hC hK|refine zM ?_;try clear hK hC K|refine zC ?_ ?_<;>intro hb|refine zK ?_;intro Jo JU JC AH AJ AG)<;>(try clear fa))
   exact hJ _ (by omega) ⟨g+1,by (have fa:=p1';exact zV)⟩
  ·have hT:(a.map AZ).take a.length=a.map AZ:=List.take_of_length_le (by simp);(have fa:=(And.intro p1 hT);(repeat' first|refine zQ ?_|refine zN ?_;intro K hC hK|refine zM ?_;try clear hK hC K|refine zC ?_ ?_<;>intro hb|refine zK ?_;intro Jo JU JC AH AJ AG)<;>(try clear fa))
   exact hJ _ (by omega) ⟨g+1,by (have fa:=(And.intro p2' hab);exact zV)⟩
  ·have hT:(a++b).take (a.length+b.length)=a++b:=List.take_of_length_le (by simp);(have fa:=(And.intro p2 hab);(repeat' first|refine zQ ?_|refine zN ?_;intro K hC hK|refine zM ?_;try clear hK hC K|refine zC ?_ ?_<;>intro hb|refine zK ?_;intro Jo JU JC AH AJ AG)<;>(try clear fa))
   refine Aa [] ?_ ?_<;>(have fa:=(And.intro p2 (And.intro hT hab));first|exact AK|(refine zE ?_;try clear fa))
end Go.Proofs.YthblfhgofopcaaaGreat

namespace Go.Proofs.YthblfhgofopcaaaGreat
def M1 (c:List Gp) (last:Int) (i:Nat):Bool:=match c[i]? with
 | none=>false
 | some g=>((AI g.wh g.kd).any fun y=>y==last)&& !(decide (0<i)&&decide (c[i-1]? =some g))
def L2 (me:List Gp) (last fm:Int) (c:List Gp):Nat→List Rg
 | 0=>[]
 | i+1=>L2 me last fm c i++if M1 c last i=true then [⟨fm,me++c,me.length+i⟩] else []
def N7 (me:List Gp) (last fm:Int) (cs:List (List Gp)):List Rg:=cs.flatMap fun c=>L2 me last fm c c.length
def Kn (con:Fm→List (List Gp)) (me:List Gp) (last:Int) (fs:List Fm):Nat→List Rg
 | 0=>[]
 | k+1=>Kn con me last fs k++match fs[k]? with
  | none=>[]
  | some f=>N7 me last k (con f)
theorem Q5 (me:List Gp) (last fm:Int) (cs:List (List Gp)) {n:Nat} (h:n<cs.length):N7 me last fm (cs.take n)++L2 me last fm cs[n] cs[n].length=N7 me last fm (cs.take (n+1)):=by
 unfold N7;rw [List.take_succ_eq_append_getElem h,List.flatMap_append];simp
theorem MC (me:List Gp) (last fm:Int) (c:List Gp):∀n,(L2 me last fm c n).length≤n
 | 0=>Nat.le_refl _
 | n+1=>by
  have:=MC me last fm c n;rw [L2,List.length_append];split<;>simp<;>omega
theorem L3 (me:List Gp) (last fm:Int) {m:Nat}:∀cs:List (List Gp),(∀c∈cs,c.length≤m)→(N7 me last fm cs).length≤cs.length*m
 | [],_=>by simp [N7]
 | c::cs,h=>by
  have h1:=L3 me last fm cs fun x hx=>h x (by simp [hx])
  have h2:=MC me last fm c c.length;have h3:=h c (by simp);unfold N7 at h1 ⊢;rw [List.flatMap_cons,List.length_append,List.length_cons,Nat.succ_mul];omega
theorem Lz (con:Fm→List (List Gp)) (me:List Gp) (last:Int) {fs:List Fm} {a m:Nat} (h:∀f∈fs,(con f).length≤a∧∀c∈con f,c.length≤m):∀n,(Kn con me last fs n).length≤n*(a*m)
 | 0=>by simp [Kn]
 | n+1=>by
  have h1:=Lz con me last h n;rw [Kn,List.length_append,Nat.succ_mul];cases hf:fs[n]? with
  | none=>simp;omega
  | some f =>
   obtain ⟨hn,he⟩:=List.getElem?_eq_some_iff.1 hf;have h2:=h f (he ▸ List.getElem_mem hn);have h3:=L3 me last n (con f) h2.2;have h4:=Nat.mul_le_mul_right m h2.1;simp only;omega
end Go.Proofs.YthblfhgofopcaaaGreat
