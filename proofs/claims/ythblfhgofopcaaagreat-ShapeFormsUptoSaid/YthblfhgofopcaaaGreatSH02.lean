/-
  Parts of the proof: VmC, VmD, VmE.
-/
import Derived.Test.YthblfhgofopcaaaGreatSH01
import Derived.ChangeKeysEq
set_option linter.all false
namespace Go.Proofs.YthblfhgofopcaaaGreat
open Go.RowKit
variable [DM]
section
variable {P:Program} {T:Dj} {c:Cx} {h:HF}
theorem Va {y:Value} (h1:y.oneCell' =true):y.cells= #[y]:=by
 cases y<;>first | rfl | cases h1
theorem eH {x:AV} (h1:x.one=true):x.cs=[x]:=by
 cases x<;>first | rfl | cases h1
theorem Im {x:AV} {y:Value} (hb:Ce x=true) (hx:AS c h x y):y.cells.size=x.cs.length∧∀(j:Nat) (u:AV),x.cs[j]? =some u→∃v,y.cells[j]? =some v∧AS c h u v:=by
 by_cases ha:∃l,x= .agg l
 ·obtain ⟨l,rfl⟩:=ha;cases hx with
  | agg l ys hl hi =>
   refine ⟨hl.symm,fun j u hu=> ?_⟩;have hj:j<ys.size:=by rw [←hl];exact (List.getElem?_eq_some_iff.1 hu).1
   exact ⟨ys[j],by simp [Value.cells,hj],hi j u _ hu (by simp [hj])⟩
 ·have h1:x.one=true:=by
   cases x<;>first | exact hb | exact absurd ⟨_,rfl⟩ ha
  have hy:=hx.oneCell h1;rw [Va hy,eH h1];refine ⟨rfl,fun j u hu=> ?_⟩;cases j with
  | zero=>simp at hu;subst hu;exact ⟨y,rfl,hx⟩
  | succ j=>simp at hu
theorem Yy {ρ:Operand→Value} {o:Oper} {e:Nat} {X:Operand} {x:AV} {nm:Nat} (ho:o.op= .box e X) (hh:BH c h) (hx:AS c h x (ρ X)) (hb:Ce x=true) (hn:h nm= .nil) :
  IL P c h (execOp ρ o) (.ref nm 0 0 0) (Bc [(nm, .arr 0 x.cs.length [x])] h):=by
 obtain ⟨h1,h2⟩:=Im hb hx;obtain ⟨K,H,e1⟩:=Ja hh hn x.cs.length [x] (ρ X).cells e (by simp [h1]) (fun i e he=>by
  cases i with
  | zero=>simp at he;rw [←he]
  | succ i=>simp at he) (fun i e j u he hj=>by
  cases i with
  | zero=>simp at he;subst he;simpa using h2 j u hj
  | succ i=>simp at he)
 refine ⟨.pointer (some ⟨c.w.heap.size,0,none⟩),_, .inl ?_,K,H, .ref _ _ _ _ _ rfl ?_⟩
 ·simp [execOp,ho,Instr.box,newVar,newRow]
 ·rw [e1];exact ⟨Nat.le_refl _,fun _=>by simp⟩
theorem U9 {ρ:Operand→Value} {o:Oper} {e:Nat} {i:TI} {nm:Nat} (hT:CQ P T) (ho:o.op= .alloc e) (ht:T e=some i) (hh:BH c h) (hz:i.agg=true∨i.zero.length=1) (hn:h nm= .nil) :
  IL P c h (execOp ρ o) (.ref nm 0 0 0) (Bc [(nm, .arr 0 i.zero.length [Gf i])] h):=by
 obtain ⟨z,z1,z2,z3⟩:=YT hT ht;have hcs:(Gf i).cs=i.zero.map .v:=by
  unfold Gf;split
  ·rfl
  ·rename_i hna;rcases hz with h1 | h1
   ·exact absurd h1 hna
   ·obtain ⟨a,ha⟩:=List.length_eq_one_iff.1 h1;rw [ha];rfl
 obtain ⟨K,H,e1⟩:=Ja hh hn i.zero.length [Gf i] z.cells e (by simp [←z1]) (fun k e he=>by
  cases k with
  | zero=>simp at he;rw [←he,hcs];simp
  | succ k=>simp at he) (fun k e j u he hj=>by
  cases k with
  | zero =>
   simp at he;subst he
   rw [hcs] at hj
   simp only [List.getElem?_map,Option.map_eq_some_iff] at hj
   obtain ⟨v,hv,rfl⟩:=hj
   rw [←z1] at hv
   exact ⟨v,by simpa using hv, .v v⟩
  | succ k=>simp at he)
 refine ⟨.pointer (some ⟨c.w.heap.size,0,none⟩),_, .inl ?_,K,H, .ref _ _ _ _ _ rfl ?_⟩
 ·simp [execOp,ho,Instr.alloc,newVar,newRow,z3]
 ·rw [e1];exact ⟨Nat.le_refl _,fun _=>by simp⟩
def E8 (c:Cx) (h:HF) (b o:Nat) (e:AV):Prop:=∃F:Nat→Value,∀(j:Nat) (x:AV),e.cs[j]? =some x→c.w.cell? ⟨b,o+j,none⟩=some (F j)∧AS c h x (F j)
theorem E8.of_ref (hh:BH c h) {r g k j sz:Nat} {es:List AV} {y:Value} (hr:h r= .arr g sz es) (hk:k<es.length) (hy:AS c h (.ref r g k j) y) :
  y= .pointer (some ⟨c.bl r,k*sz+j,none⟩)∧(Dv es k).cs.length=sz∧E8 c h (c.bl r) (k*sz) (Dv es k):=by
 have hl:c.rl r=true:=by
  cases hl:c.rl r with
  | true=>rfl
  | false=>rw [hh.em r g sz es hr hl] at hk;simp at hk
 obtain ⟨cs,ty,h1,_,h3,h4⟩:=hh.ar r g sz es hr hl;have hn:es[k]? =some (Dv es k):=by simp [Dv,hk]
 refine ⟨?_,h3 k _ hn,fun m=>cs[k*sz+m]?.getD undef,fun m x hx=> ?_⟩
 ·cases hy with
  | ref _ _ _ _ _ _ hg =>
   rw [hr] at hg;exact hg.2 rfl
 ·obtain ⟨v,hv,hrel⟩:=h4 k _ m x hn hx;show _=some (cs[k*sz+m]?.getD undef)∧AS c h x (cs[k*sz+m]?.getD undef);rw [cell_of_row c.w _ _ cs ty (0,0) h1,hv];exact ⟨rfl,hrel⟩
theorem E8.of_isp {f:Bool} {sz k j:Nat} {es:List AV} {y:Value} (hk:k<es.length) (hy:AS c h (.isp f sz es k j) y) :
  ∃b o,y= .pointer (some ⟨b,o+k*sz+j,none⟩)∧(Dv es k).cs.length=sz∧E8 c h b (o+k*sz) (Dv es k):=by
 have hn:es[k]? =some (Dv es k):=by simp [Dv,hk]
 cases hy with
 | isp _ _ _ _ _ b o ys _ hz hc hr=>exact ⟨b,o,rfl,hz k _ hn,fun m=>ys k m,fun m x hx=>⟨hc k _ m x hn hx,hr k _ m x hn hx⟩⟩
theorem KF (hT:CQ P T) {t:Nat} {i:TI} (ht:T t=some i) {b o sz j:Nat} {e x:AV} {p:Prop} {us:List (Nat×Ob)} (hs:e.cs.length=sz) (hc:E8 c h b o e) (hp:Fv i sz e j= .out p x us) (hq:p) :
  us=[]∧∃y,(loadVar t ⟨b,o+j,none⟩).run P c.w= .ok y c.w∧AS c h x y:=by
 obtain ⟨F,hF⟩:=hc;have hF' :∀m,m<e.cs.length→c.w.cell? ⟨b,o+m,none⟩=some (F m)∧AS c h (Dv e.cs m) (F m):=fun m hm=>by
  have:=hF m (Dv e.cs m) (by simp [Dv,hm]);exact this
 have hA:∀n,j+n≤e.cs.length→(loadCells ⟨b,o+j,none⟩ n).run P c.w= .ok ((List.range n).map fun m=>F (j+m)).toArray c.w:=fun n hn=>by
  have h2:=run_loadCells_list (P:=P) (w:=c.w) ⟨b,o+j,none⟩ ((List.range n).map fun m=>F (j+m)) (fun m v hv=>by
   simp only [List.getElem?_map,Option.map_eq_some_iff] at hv
   obtain ⟨m',hm',rfl⟩:=hv
   have hlt:=(List.getElem?_eq_some_iff.1 hm').1
   have heq:=(List.getElem?_eq_some_iff.1 hm').2
   simp at hlt heq
   subst heq
   have:=(hF' (j+m) (by omega)).1
   rw [Addr.add_lit]
   simpa [Nat.add_assoc] using this)
  simpa using h2
 have ha:=Ig hT ht c.w;have hsz:=Dr hT ht c.w;unfold Fv at hp;by_cases hg:i.agg=true
 ·rw [if_pos hg] at hp;rw [hg] at ha;by_cases hj:j=0∧i.size=sz
  ·rw [if_pos hj] at hp;obtain ⟨rfl,hj⟩:=hj;cases e with
   | agg l =>
    injection hp with h1 h2 h3
    subst h1 h2 h3;have hq:l.length=sz:=hs;simp only [AV.cs] at hs hF' hA;refine ⟨rfl, .agg ((List.range i.size).map fun m=>F (0+m)).toArray,?_, .agg _ _ (by simp;omega) fun m x y hx hy=> ?_⟩
    ·simp only [loadVar,Sem.run_bind,ha,Result.andThen_ok,if_true,hsz,hA i.size (by omega),Sem.run_pure]
    ·have hml:=(List.getElem?_eq_some_iff.1 hx).1;have:=(hF' m hml).2;simp [Dv,hx] at this;simp only [List.getElem?_toArray,List.getElem?_map,Option.map_eq_some_iff] at hy;obtain ⟨m',hm',rfl⟩:=hy;have heq:=(List.getElem?_eq_some_iff.1 hm').2;simp at heq;subst heq;simpa using this
   | _=>injection hp with h1 h2 h3;subst h1;cases hq
  ·rw [if_neg hj] at hp;injection hp with h1 h2 h3
   subst h1 h2 h3;refine ⟨rfl, .agg ((List.range i.size).map fun m=>F (j+m)).toArray,?_, .agg _ _ (by simp;omega) fun m x y hx hy=> ?_⟩
   ·simp only [loadVar,Sem.run_bind,ha,Result.andThen_ok,if_true,hsz,hA i.size hq,Sem.run_pure]
   ·rw [List.getElem?_take] at hx;split at hx
    ·rename_i hm;rw [List.getElem?_drop] at hx;have hml:=(List.getElem?_eq_some_iff.1 hx).1;have:=(hF' (j+m) hml).2;simp [Dv,hx] at this;simp only [List.getElem?_toArray,List.getElem?_map,Option.map_eq_some_iff] at hy;obtain ⟨m',hm',rfl⟩:=hy;have heq:=(List.getElem?_eq_some_iff.1 hm').2;simp at heq;subst heq;exact this
    ·cases hx
 ·rw [if_neg hg] at hp;have hg' :i.agg=false:=by simpa using hg
  rw [hg'] at ha;injection hp with h1 h2 h3
  subst h1 h2 h3;obtain ⟨hcell,hrel⟩:=hF' j hq;refine ⟨rfl,F j,?_,hrel⟩;simp [loadVar,ha,load,Sem.run,hcell]
theorem Wl {ρ:Operand→Value} {o:Oper} {t:Nat} {A:Operand} {i:TI} {x a:AV} {p:Prop} {us:List (Nat×Ob)} (hT:CQ P T) (ho:o.op= .load t A) (ht:T t=some i) (hh:BH c h) (ha:AS c h a (ρ A)) (hp:FA i h a= .out p x us) (hq:p) :
  IL P c h (execOp ρ o) x (Bc us h):=by
 have key:∀b o',ρ A= .pointer (some ⟨b,o',none⟩)→∀y,(loadVar t ⟨b,o',none⟩).run P c.w= .ok y c.w→AS c h x y→IL P c h (execOp ρ o) x h:=fun b o' hA y hr hx =>
  .val (by simp [execOp,ho,Instr.loadAt,hA,Instr.sureAddr,hr]) hh hx
 cases a with
 | ref r g k j =>
  simp only [FA] at hp;split at hp
  ·rename_i g' sz es hr;cases hpp:Fv i sz (Dv es k) j with
   | out p' x' us' =>
    rw [hpp] at hp;simp only [Rs.also] at hp;injection hp with h1 h2 h3
    subst h1 h2 h3;obtain ⟨⟨rfl,hk⟩,hp'⟩:=hq;obtain ⟨hy,hs,hc⟩:=E8.of_ref hh hr hk ha;obtain ⟨rfl,y,hrun,hrel⟩:=KF hT ht hs hc hpp hp';exact key _ _ hy y hrun hrel
   | _=>rw [hpp] at hp;cases hp
  ·cases hp
 | isp f sz es k j =>
  simp only [FA] at hp;cases hpp:Fv i sz (Dv es k) j with
  | out p' x' us' =>
   rw [hpp] at hp;simp only [Rs.also] at hp;injection hp with h1 h2 h3
   subst h1 h2 h3;obtain ⟨hk,hp'⟩:=hq;obtain ⟨b,o',hy,hs,hc⟩:=E8.of_isp hk ha;obtain ⟨rfl,y,hrun,hrel⟩:=KF hT ht hs hc hpp hp';exact key _ _ hy y hrun hrel
  | _=>rw [hpp] at hp;cases hp
 | _=>cases hp
end
end Go.Proofs.YthblfhgofopcaaaGreat

namespace Go.Proofs.YthblfhgofopcaaaGreat
open Go.RowKit
variable [DM]
section
variable {P:Program} {T:Dj} {c:Cx} {h:HF}
theorem E6 (hh:BH c h) {r g g' sz:Nat} {es es' :List AV} {cs cs' :Array Value} {ty:Nat} (hr:h r= .arr g sz es) (hl:c.rl r=true) (hcs:c.w.heap[c.bl r]? =some (.cells cs ty (0,0))) (hsz:cs'.size=cs.size) (hg:g≤g')
  (h1:es'.length*sz≤cs'.size) (h2:∀(i:Nat) (e:AV),es'[i]? =some e→e.cs.length=sz)
  (h3:∀(i:Nat) (e:AV) (j:Nat) (x:AV),es'[i]? =some e→e.cs[j]? =some x→∃y,cs'[i*sz+j]? =some y∧AS c h x y)
  (w' :World) (hw:∀b,b≠c.bl r→w'.heap[b]? =c.w.heap[b]?) (hw2:w'.heap[c.bl r]? =some (.cells cs' ty (0,0))) (o1:w'.os=c.w.os) (o2:w'.tape=c.w.tape) (o3:w'.output=c.w.output) (o4:w'.heap.size=c.w.heap.size) (o5:w'.drawn=c.w.drawn) :
  let c' :Cx:={ c with w:=w' }
  let h' :HF:=Bc [(r, .arr g' sz es')] h
  Bj c h c' h' ∧BH c' h' ∧h' r= .arr g' sz es' :=by
 intro c' h';have e1:h' r= .arr g' sz es' :=by simp [h',Bc]
 have e2:∀q,q≠r→h' q=h q:=fun q hq=>by simp [h',Bc,hq]
 have other:∀q g1 s1 es1,q≠r→h q= .arr g1 s1 es1→c.rl q=true→c.bl q≠c.bl r:=fun q g1 s1 es1 hq h4 h5 h6=>hq (hh.inj q r g1 g s1 sz es1 es h4 hr h5 hl h6)
 have K:Bj c h c' h' :={
  dr:= .inr (Nat.le_of_eq o5.symm)
  os:=o1
  tape:=o2
  output:=o3
  size:=Nat.le_of_eq o4.symm
  blk:=fun b _ hm=>hw b fun he=>hm ⟨r,g,sz,es,hr,hl,he.symm⟩
  dd:=fun q hq=>by
   have:q≠r:=fun he=>by rw [he,hr] at hq;cases hq
   rw [e2 q this];exact hq
  ar:=fun q g1 s1 es1 hq=>by
   by_cases he:q=r
   ·subst he
    rw [hr] at hq
    injection hq with q1 q2 q3
    subst q1 q2 q3
    exact .inr ⟨g',es',e1,hg,fun _=>⟨rfl,rfl,fun _ cs1 t1 h5=>by
     rw [hcs] at h5
     injection h5 with h5
     injection h5 with h5 h6
     subst h5 h6
     exact ⟨cs',hw2,hsz⟩⟩⟩
   ·exact .inr ⟨g1,es1,by rw [e2 q he];exact hq,Nat.le_refl _,fun _=>⟨rfl,rfl,fun h5 cs1 t1 h6=>⟨cs1,by rw [←h6];exact hw _ (other q g1 s1 es1 he hq h5),rfl⟩⟩⟩
  fr:=fun q g1 s1 es1 hq h5=>by
   by_cases he:q=r
   ·subst he
    rw [e1] at hq
    injection hq with q1 q2 q3
    subst q2
    exact .inr ⟨g,es,hr,hl,rfl⟩
   ·exact .inr ⟨g1,es1,by rw [←e2 q he];exact hq,h5,rfl⟩
  okT:=rfl
  okF:=rfl
  n0:=rfl }
 refine ⟨K,⟨?_,?_,?_⟩,e1⟩
 ·intro q g1 s1 es1 hq h5;by_cases he:q=r
  ·subst he;rw [e1] at hq;injection hq with q1 q2 q3
   subst q2 q3;exact ⟨cs',ty,hw2,h1,h2,fun i e j x he hj=>by
    obtain ⟨y,hy,hv⟩:=h3 i e j x he hj
    exact ⟨y,hy,hv.ext K.ext⟩⟩
  ·rw [e2 q he] at hq;obtain ⟨cs1,t1,a1,a2,a3,a4⟩:=hh.ar q g1 s1 es1 hq h5;exact ⟨cs1,t1,by rw [←a1];exact hw _ (other q g1 s1 es1 he hq h5),a2,a3,fun i e j x he hj=>by
    obtain ⟨y,hy,hv⟩:=a4 i e j x he hj
    exact ⟨y,hy,hv.ext K.ext⟩⟩
 ·intro q g1 s1 es1 hq h5;by_cases he:q=r
  ·subst he;exact absurd h5 (by simp [c',hl])
  ·rw [e2 q he] at hq;exact hh.em q g1 s1 es1 hq h5
 ·intro q q' g1 g2 s1 s2 es1 es2 hq hq' h5 h6 hb;by_cases he:q=r<;>by_cases he' :q' =r
  ·rw [he,he']
  ·rw [e2 q' he'] at hq';exact absurd hb (by subst he;exact fun hb=>other q' g2 s2 es2 he' hq' h6 hb.symm)
  ·rw [e2 q he] at hq;exact absurd hb (by subst he';exact other q g1 s1 es1 he hq h5)
  ·rw [e2 q he] at hq;rw [e2 q' he'] at hq';exact hh.inj q q' g1 g2 s1 s2 es1 es2 hq hq' h5 h6 hb
theorem Fe {α:Type} {l vs:List α} {o m:Nat} (hm:m<o) (ho:o≤l.length):(l.take o++vs++l.drop (o+vs.length))[m]? =l[m]? :=by
 rw [List.append_assoc,List.getElem?_append_left (by simp;omega),List.getElem?_take,if_pos hm]
theorem Fq {α:Type} {l vs:List α} {o m:Nat} (hm:o≤m) (h2:m<o+vs.length) (ho:o≤l.length):(l.take o++vs++l.drop (o+vs.length))[m]? =vs[m-o]? :=by
 rw [List.append_assoc,List.getElem?_append_right (by simp;omega),List.getElem?_append_left (by simp;omega)];congr 1;simp;omega
theorem Gb {α:Type} {l vs:List α} {o m:Nat} (h2:o+vs.length≤m) (ho:o≤l.length):(l.take o++vs++l.drop (o+vs.length))[m]? =l[m]? :=by
 rw [List.append_assoc,List.getElem?_append_right (by simp;omega),List.getElem?_append_right (by simp;omega),List.getElem?_drop];congr 1;simp;omega
theorem HG {w:World} {g ty:Nat} {cur cs' :Array Value} (hg:w.heap[g]? =some (.cells cur ty (0,0))) :
  (∀b,b≠g→(w.setRow g cs').heap[b]? =w.heap[b]?)∧(w.setRow g cs').heap[g]? =some (.cells cs' ty (0,0))∧(w.setRow g cs').os=w.os∧(w.setRow g cs').tape=w.tape∧(w.setRow g cs').output=w.output∧(w.setRow g cs').heap.size=w.heap.size:=by
 refine ⟨fun b hb=> ?_,setRow_heap w g cur cs' ty (0,0) hg,rfl,rfl,rfl,by simp [World.setRow]⟩;simp [World.setRow,Array.getElem?_modify,Ne.symm hb]
theorem Uq {ρ:Operand→Value} {o:Oper} {t:Nat} {A X:Operand} {i:TI} {x x' a:AV} {p:Prop} {us:List (Nat×Ob)} (hT:CQ P T) (ho:o.op= .store t A X) (ht:T t=some i) (hh:BH c h) (ha:AS c h a (ρ A)) (hx:AS c h x (ρ X)) (hp:FS i h x a= .out p x' us) (hq:p) :
  IL P c h (execOp ρ o) x' (Bc us h):=by
 cases a with
 | ref r g k j =>
  simp only [FS] at hp;split at hp
  ·rename_i g' sz es hr;injection hp with h1 h2 h3
   subst h1 h2 h3;obtain ⟨rfl,hk,hn,hone,hb,hw⟩:=hq;obtain ⟨hy,hs,hc⟩:=E8.of_ref hh hr hk ha;have hl:c.rl r=true:=by
    cases hl:c.rl r with
    | true=>rfl
    | false=>rw [hh.em r g' sz es hr hl] at hk;simp at hk
   obtain ⟨cs,ty,a1,a2,a3,a4⟩:=hh.ar r g' sz es hr hl;obtain ⟨b1,b2⟩:=Im hb hx;have hone' :∀v∈(ρ X).cells.toList,v.oneCell' =true:=fun v hv=>by
    obtain ⟨m,hm,hm2⟩:=List.mem_iff_getElem.1 hv;have hm' :m<x.cs.length:=by rw [←b1];simpa using hm
    obtain ⟨v',hv',hrel⟩:=b2 m (x.cs[m]) (by simp [hm']);have:v' =v:=by
     rw [←hm2];have:=(Array.getElem?_eq_some_iff.1 hv').2;rw [←this];simp
    rw [←this];exact hrel.oneCell (hone _ (List.getElem_mem hm'))
   have hj:j+i.size≤sz:=by rcases hw with ⟨h1,h2⟩ | h1;omega;exact h1.2
   have hks:k*sz+sz≤es.length*sz:=by rw [←Nat.succ_mul];exact Nat.mul_le_mul_right _ hk
   have hfit:k*sz+j+0+(ρ X).cells.toList.length≤cs.size:=by simp [b1];omega
   have hst:=run_storeCells_at P (c.bl r) (k*sz+j) ty (ρ X).cells.toList 0 cs c.w a1 hfit hone';simp only [Nat.add_zero] at hst;have hz2:(ρ X).cells.toList.length=i.size:=by simp [b1,hn]
   have htl:cs.toList.length=cs.size:=by simp
   generalize hcs' :(cs.toList.take (k*sz+j)++(ρ X).cells.toList++cs.toList.drop (k*sz+j+(ρ X).cells.toList.length)).toArray=cs' at hst;have hsz:cs'.size=cs.size:=by rw [←hcs'];simp [b1] at hfit ⊢;omega
   have hget:∀m:Nat,cs'[m]? =(cs.toList.take (k*sz+j)++(ρ X).cells.toList++cs.toList.drop (k*sz+j+(ρ X).cells.toList.length))[m]? :=fun m=>by rw [←hcs',List.getElem?_toArray]
   have hgt:∀m:Nat,cs[m]? =cs.toList[m]? :=fun m=>by simp
   obtain ⟨w1,w2,w3,w4,w5,w6⟩:=HG (cs' :=cs') a1;have hne:es[k]? =some (Dv es k):=by simp [Dv,hk]
   have hE:(Ux (Dv es k) x sz i.size j).cs.length=sz∧∀m u,(Ux (Dv es k) x sz i.size j).cs[m]? =some u→(m<j∧(Dv es k).cs[m]? =some u)∨(j≤m∧m<j+i.size∧x.cs[m-j]? =some u)∨(j+i.size≤m∧(Dv es k).cs[m]? =some u):=by
    unfold Ux;by_cases hw' :j=0∧i.size=sz
    ·rw [if_pos hw'];obtain ⟨rfl,hw'⟩:=hw';refine ⟨by omega,fun m u hu=> .inr (.inl ⟨Nat.zero_le _,?_,by simpa using hu⟩)⟩;have:=(List.getElem?_eq_some_iff.1 hu).1;omega
    ·rw [if_neg hw'];obtain ⟨he,_⟩:=hw.resolve_left hw';obtain ⟨l,he⟩:∃l,Dv es k= .agg l:=⟨_,Ul he⟩;rw [he] at hs ⊢;have hs' :l.length=sz:=hs;change (l.take j++x.cs++l.drop (j+i.size)).length=sz∧∀(m:Nat) (u:AV),(l.take j++x.cs++l.drop (j+i.size))[m]? =some u→(m<j∧l[m]? =some u)∨(j≤m∧m<j+i.size∧x.cs[m-j]? =some u)∨(j+i.size≤m∧l[m]? =some u);refine ⟨by simp;omega,fun m u hu=> ?_⟩;by_cases m1:m<j
     ·exact .inl ⟨m1,by rw [←hn,Fe m1 (by omega)] at hu;exact hu⟩
     ·by_cases m2:m<j+i.size
      ·exact .inr (.inl ⟨by omega,m2,by rw [←hn,Fq (by omega) (by omega) (by omega)] at hu;exact hu⟩)
      ·exact .inr (.inr ⟨by omega,by rw [←hn,Gb (by omega) (by omega)] at hu;exact hu⟩)
   obtain ⟨K,H,e1⟩:=E6 hh (g' :=g') (es' :=es.set k (Ux (Dv es k) x sz i.size j)) (cs' :=cs') hr hl a1 hsz (Nat.le_refl _) (by simp;omega)
    (fun m e he=>by
     rw [List.getElem?_set] at he
     split at he
     ·rename_i hkm
      subst hkm
      simp at he
      rw [←he];exact hE.1
     ·exact a3 m e he)
    (fun m e j' u he hj' =>by
     rw [List.getElem?_set] at he
     split at he
     ·rename_i hkm
      subst hkm
      simp at he
      subst he
      have hlt:j' <sz:=by rw [←hE.1];exact (List.getElem?_eq_some_iff.1 hj').1
      rcases hE.2 j' u hj' with ⟨m1,hu⟩ | ⟨m1,m2,hu⟩ | ⟨m1,hu⟩
      ·obtain ⟨y,hy,hv⟩:=a4 k _ j' u hne hu
       exact ⟨y,by rw [hget,Fe (by omega) (by omega),←hgt];exact hy,hv⟩
      ·obtain ⟨y,hy,hv⟩:=b2 _ u hu
       refine ⟨y,?_,hv⟩
       rw [hget,Fq (by omega) (by omega) (by omega)]
       rw [show k*sz+j' -(k*sz+j)=j' -j by omega]
       simpa using hy
      ·obtain ⟨y,hy,hv⟩:=a4 k _ j' u hne hu
       exact ⟨y,by rw [hget,Gb (by omega) (by omega),←hgt];exact hy,hv⟩
     ·rename_i hkm
      obtain ⟨y,hy,hv⟩:=a4 m e j' u he hj'
      refine ⟨y,?_,hv⟩
      have hlt:j' <sz:=by rw [←a3 m e he];exact (List.getElem?_eq_some_iff.1 hj').1
      rw [hget]
      rcases Nat.lt_or_gt_of_ne hkm with h1 | h1
      ·have:k*sz+sz≤m*sz:=by rw [←Nat.succ_mul];exact Nat.mul_le_mul_right _ h1
       rw [Gb (by omega) (by omega),←hgt];exact hy
      ·have:m*sz+sz≤k*sz:=by rw [←Nat.succ_mul];exact Nat.mul_le_mul_right _ h1
       rw [Fe (by omega) (by omega),←hgt];exact hy)
    (c.w.setRow (c.bl r) cs') w1 w2 w3 w4 w5 w6 rfl
   refine ⟨undef,_, .inr ⟨?_,rfl⟩,K,H, .any _⟩;have hsz2:=Dr hT ht c.w;simp only [execOp,ho,Instr.storeAt,hy,Instr.sureAddr,Sem.run_bind,Sem.run_pure,Result.andThen_ok,storeVar,hsz2];rw [if_neg (by simp [b1,hn])];rw [hst];rfl
  ·cases hp
 | _=>cases hp
end
end Go.Proofs.YthblfhgofopcaaaGreat

namespace Go.Proofs.YthblfhgofopcaaaGreat
open Go.RowKit
variable [DM]
section
variable {P:Program} {T:Dj} {c:Cx} {h:HF} {ρ:Operand→Value} {o:Oper} {x:AV} {p:Prop} {us:List (Nat×Ob)}
theorem As {x y:Value} (hx:AS c h (.v x) y):y=x:=by cases hx;rfl
theorem R6 {X:Operand} {a:AV} (ho:o.op= .move X∨o.op= .assign X) (hh:BH c h) (ha:AS c h a (ρ X)):IL P c h (execOp ρ o) a h:=by
 rcases ho with ho | ho<;>exact .val (y:=ρ X) (by simp [execOp,ho]) hh ha
theorem Xp {C A B:Operand} {a b d:AV} (ho:o.op= .pick C A B) (hh:BH c h) (hd:AS c h d (ρ C)) (ha:AS c h a (ρ A)) (hb:AS c h b (ρ B)) (hp:Mt d a b= .out p x us):IL P c h (execOp ρ o) x (Bc us h):=by
 unfold Mt at hp;split at hp
 ·rename_i t;have hC:=As hd;split at hp
  ·rename_i q r;injection hp with h1 h2 h3
   subst h2 h3;have hA:=As ha;have hB:=As hb;refine .val (y:= .bool (bif t then q else r)) ?_ hh (.v _);cases t<;>simp [execOp,ho,hC,hA,hB,asBool]
  ·injection hp with h1 h2 h3
   subst h2 h3;cases t
   ·exact .val (y:=ρ B) (by simp [execOp,ho,hC,asBool]) hh hb
   ·exact .val (y:=ρ A) (by simp [execOp,ho,hC,asBool]) hh ha
 ·cases hp
theorem Pq {X:Operand} {a:AV} (ho:o.op= .nilCheck X) (hh:BH c h) (ha:AS c h a (ρ X)) (hp:Da h a= .out p x us) (hq:p):IL P c h (execOp ρ o) x (Bc us h):=by
 cases a with
 | ref r g k j =>
  simp only [Da] at hp;split at hp
  ·rename_i g' sz es hr;injection hp with h1 h2 h3
   subst h1 h2 h3;subst hq;have ha' :=ha;cases ha' with
   | ref _ _ _ _ _ _ hg =>
    rw [hr] at hg;have:=hg.2 rfl;exact .val (y:=ρ X) (by simp [execOp,ho,this]) hh ha
  ·cases hp
 | isp f sz es k j =>
  injection hp with h1 h2 h3
  subst h2 h3;have ha' :=ha;generalize hy:ρ X=y at *;cases ha' with
  | isp=>exact .val (by simp [execOp,ho,hy]) hh ha
 | clo f l =>
  injection hp with h1 h2 h3
  subst h2 h3;have ha' :=ha;generalize hy:ρ X=y at *;cases ha' with
  | clo=>exact .val (by simp [execOp,ho,hy]) hh ha
 | _=>cases hp
theorem Zv {op:BinOp} {ty ty' :Nat} {X Y:Operand} {k k' :IntKind} {a b:Int} (ho:o.op= .binOp op ty X Y ty') (hh:BH c h) (hX:ρ X= .int k a) (hY:ρ Y= .int k' b) (hp:U7 op k k' a b= .out p x us) (hq:p):IL P c h (execOp ρ o) x (Bc us h):=by
 have key:∀v:Value,x= .v v→us=[]→(execOp ρ o).run P c.w= .ok (.value v) c.w→IL P c h (execOp ρ o) x (Bc us h):=fun v h1 h2 h3=>by
  subst h1 h2;exact .val h3 hh (.v v)
 cases op<;>simp only [U7] at hp<;>injection hp with h1 h2 h3<;>subst h1 h2 h3
 case add=>subst hq;exact key _ rfl rfl (by simp [execOp,ho,hX,hY,eqGuard,binOp,Op.intArith])
 case sub=>subst hq;exact key _ rfl rfl (by simp [execOp,ho,hX,hY,eqGuard,binOp,Op.intArith])
 case mul=>subst hq;exact key _ rfl rfl (by simp [execOp,ho,hX,hY,eqGuard,binOp,Op.intArith])
 case quo=>obtain ⟨rfl,hq⟩:=hq;exact key _ rfl rfl (by simp [execOp,ho,hX,hY,eqGuard,binOp,Op.intDiv,hq])
 case rem=>obtain ⟨rfl,hq⟩:=hq;exact key _ rfl rfl (by simp [execOp,ho,hX,hY,eqGuard,binOp,Op.intDiv,hq])
 case and=>subst hq;exact key _ rfl rfl (by simp [execOp,ho,hX,hY,eqGuard,binOp,Op.intBits])
 case or=>subst hq;exact key _ rfl rfl (by simp [execOp,ho,hX,hY,eqGuard,binOp,Op.intBits])
 case xor=>subst hq;exact key _ rfl rfl (by simp [execOp,ho,hX,hY,eqGuard,binOp,Op.intBits])
 case andNot=>subst hq;exact key _ rfl rfl (by simp [execOp,ho,hX,hY,eqGuard,binOp,Op.intBits])
 case shl=>exact key _ rfl rfl (by simp [execOp,ho,hX,hY,eqGuard,binOp,Op.shift,show ¬b<0 by omega])
 case shr=>exact key _ rfl rfl (by simp [execOp,ho,hX,hY,eqGuard,binOp,Op.shift,show ¬b<0 by omega])
 case eql=>subst hq;exact key _ rfl rfl (by simp [execOp,ho,hX,hY,eqGuard,binOp,Op.intCmp])
 case neq=>subst hq;exact key _ rfl rfl (by simp [execOp,ho,hX,hY,eqGuard,binOp,Op.intCmp])
 case lss=>subst hq;exact key _ rfl rfl (by simp [execOp,ho,hX,hY,eqGuard,binOp,Op.intCmp])
 case leq=>subst hq;exact key _ rfl rfl (by simp [execOp,ho,hX,hY,eqGuard,binOp,Op.intCmp])
 case gtr=>subst hq;exact key _ rfl rfl (by simp [execOp,ho,hX,hY,eqGuard,binOp,Op.intCmp])
 case geq=>subst hq;exact key _ rfl rfl (by simp [execOp,ho,hX,hY,eqGuard,binOp,Op.intCmp])
theorem Ms {a:AV} {q:Prop} {b:Bool} {y:Value} (ha:AS c h a y) (hn:JL h a=some (q,b)) (hq:q):∃A n m,y= .slice A n m∧b=A.isNone:=by
 unfold JL at hn;split at hn
 ·injection hn with hn;injection hn with h1 h2;subst h2;cases ha;exact ⟨none,_,_,rfl,rfl⟩
 ·injection hn with hn;injection hn with h1 h2;subst h2;cases ha;exact ⟨_,_,_,rfl,rfl⟩
 ·rename_i es;injection hn with hn;injection hn with h1 h2;subst h1 h2
  cases ha with
  | slE=>exact absurd rfl hq
  | sl=>exact ⟨_,_,_,rfl,rfl⟩
 ·rename_i r g o n;split at hn
  ·rename_i g' sz es hr;injection hn with hn;injection hn with h1 h2;subst h1 h2
   obtain ⟨rfl,h0⟩:=hq;cases ha with
   | rsl _ _ _ _ _ _ hg =>
    rw [hr] at hg;obtain ⟨A,cap,rfl,hc,_,hA⟩:=hg.2 rfl;obtain ⟨_,rfl,_⟩:=hA (by omega);exact ⟨_,_,_,rfl,rfl⟩
  ·cases hn
 ·cases hn
theorem aK (hT:CQ P T) {t:Nat} {i:TI} (ht:T t=some i) (hk:i.k= .bool):P.underlying t=some .bool:=by
 obtain ⟨j,d,z,_,h2,_,_,_,_,_,_,h3⟩:=Cd hT ht;rw [hk] at h3;cases d<;>first | exact h2 | cases h3
theorem DG (hT:CQ P T) {t e:Nat} {i:TI} (ht:T t=some i) (hk:i.k= .slice e):P.underlying t=some (.slice e):=by
 obtain ⟨j,d,z,_,h2,_,_,_,_,_,_,h3⟩:=Cd hT ht;rw [hk] at h3;cases d<;>simp only [Uy] at h3<;>(cases h3<;>exact h2)
theorem SI (hT:CQ P T) {t:Nat} {k:IntKind} {i:TI} (ht:T t=some i) (hk:i.k= .int k):P.underlying t=some (.int k):=by
 obtain ⟨j,d,z,_,h2,_,_,_,_,_,_,h3⟩:=Cd hT ht;rw [hk] at h3;cases d<;>simp only [Uy] at h3<;>(cases h3<;>exact h2)
theorem Po (hT:CQ P T) {t n e:Nat} {i:TI} (ht:T t=some i) (hk:i.k= .arr n e):P.underlying t=some (.array n e):=by
 obtain ⟨j,d,z,_,h2,_,_,_,_,_,_,h3⟩:=Cd hT ht;rw [hk] at h3;cases d<;>simp only [Uy] at h3<;>(cases h3<;>exact h2)
theorem Tt (hT:CQ P T) {t:Nat} {fs:List (Nat×Nat)} {i:TI} (ht:T t=some i) (hk:i.k= .st fs):∃F:Array Field,P.underlying t=some (.struct F)∧F.toList.map (fun f=>(f.offset,f.type))=fs:=by
 obtain ⟨j,d,z,_,h2,_,_,_,_,_,_,h3⟩:=Cd hT ht;rw [hk] at h3;cases d<;>simp only [Uy] at h3<;>(cases h3<;>exact ⟨_,h2,rfl⟩)
theorem iB (hT:CQ P T) {t:Nat} {i:TI} (ht:T t=some i) (hk:i.k= .str):P.underlying t=some .string:=by
 obtain ⟨j,d,z,_,h2,_,_,_,_,_,_,h3⟩:=Cd hT ht;rw [hk] at h3;cases d<;>first | exact h2 | cases h3
theorem Vx (hT:CQ P T) {t:Nat} {i:TI} (ht:T t=some i) (hk:i.k= .bool):P.underlying t=some .bool:=by
 obtain ⟨j,d,z,_,h2,_,_,_,_,_,_,h3⟩:=Cd hT ht;rw [hk] at h3;cases d<;>first | exact h2 | cases h3
theorem Ph (hT:CQ P T) {xs ys:List AV} {vxs vys:Array Value} (l1:xs.length=vxs.size) (l2:ys.length=vys.size) (k1:∀(i:Nat) (x:AV) (y:Value),xs[i]? =some x→vxs[i]? =some y→AS c h x y)
  (k2 : ∀ (i : Nat) (x : AV) (y : Value), ys[i]? = some x → vys[i]? = some y → AS c h x y) : ∀ (F : List Field), (∀ f ∈ F, f.name ≠ "_") → ∀ (w : World) (b : Bool), iI T xs ys (F.map fun f => (f.offset, f.type)) = some b → (Op.eqFields 9999 vxs vys F).run P w = .ok b w
 | [],_,w,b,he=>by simp only [List.map_nil,iI] at he;injection he with he;subst he;simp [Op.eqFields]
 | f::F,hF,w,b,he=>by
  have at1:∀{zs:List AV} {vzs:Array Value} {z:Value},zs.length=vzs.size→(∀(i:Nat) (x:AV) (y:Value),zs[i]? =some x→vzs[i]? =some y→AS c h x y)→Dv zs f.offset= .v z→vzs[f.offset]? =some z:=fun {zs vzs z} hl hr hn=>by
   unfold Dv at hn;cases hz:zs[f.offset]? with
   | none=>rw [hz] at hn;cases hn
   | some x =>
    rw [hz] at hn;simp only [Option.getD_some] at hn;subst hn;have hlt:f.offset<vzs.size:=by rw [←hl];exact (List.getElem?_eq_some_iff.1 hz).1
    have:=hr f.offset _ vzs[f.offset] hz (by simp [hlt]);have e:=As this;simp [hlt,e]
  simp only [List.map_cons,iI] at he;simp only [Op.eqFields,if_pos (hF f List.mem_cons_self)];split at he
  ·rename_i kk hft;have hag:=Ig hT hft w;have hu:=SI hT hft rfl;split at he
   ·rename_i k a k' b' hx hy;have e1:=at1 l1 k1 hx;have e2:=at1 l2 k2 hy;split at he
    ·rename_i hk;subst hk;split at he
     ·rename_i r hr;injection he with he
      subst he;have ih:=Ph hT l1 l2 k1 k2 F (fun f hf=>hF f (List.mem_cons_of_mem _ hf)) w r hr;have hsc:b9 (.int kk)=false:=rfl;have hagF:(isAgg f.type).run P w= .ok false w:=by simp [isAgg,run_underlying hu]
      simp only [Sem.run_bind,part,hagF,Result.andThen_ok,e1,e2,Bool.false_eq_true,if_false,Sem.run_pure,run_equalIn_int w 9998 f.type k kk a b' hu];cases hab:a==b'
      ·simp
      ·simp [ih]
     ·cases he
    ·cases he
   ·cases he
  ·rename_i hft;have hu:=Vx hT hft rfl;split at he
   ·rename_i a b' hx hy;have e1:=at1 l1 k1 hx;have e2:=at1 l2 k2 hy;split at he
    ·rename_i r hr;injection he with he
     subst he;have ih:=Ph hT l1 l2 k1 k2 F (fun f hf=>hF f (List.mem_cons_of_mem _ hf)) w r hr;have hagF:(isAgg f.type).run P w= .ok false w:=by simp [isAgg,run_underlying hu]
     simp only [Sem.run_bind,part,hagF,Result.andThen_ok,e1,e2,Bool.false_eq_true,if_false,Sem.run_pure,run_equalIn_bool' w 9998 f.type a b' hu];cases hab:a==b'
     ·simp
     ·simp [ih]
    ·cases he
   ·cases he
  ·cases he
theorem Rt (hT:CQ P T) {e:Nat} {b0 by0 z0 kk} (hte:T e=some ⟨b0,1,by0,z0, .int kk⟩) {xs ys:List AV} {vxs vys:Array Value} (l1:xs.length=vxs.size) (l2:ys.length=vys.size) (k1:∀(i:Nat) (x:AV) (y:Value),xs[i]? =some x→vxs[i]? =some y→AS c h x y)
  (k2:∀(i:Nat) (x:AV) (y:Value),ys[i]? =some x→vys[i]? =some y→AS c h x y):∀(n k:Nat) (w:World) (b:Bool),VI xs ys k n=some b→(Op.eqItems 9999 e 1 vxs vys (List.range' k n)).run P w= .ok b w
 | 0,k,w,b,he=>by simp only [VI] at he;injection he with he;subst he;simp [Op.eqItems]
 | n+1,k,w,b,he=>by
  have at1:∀{zs:List AV} {vzs:Array Value} {z:Value},zs.length=vzs.size→(∀(i:Nat) (x:AV) (y:Value),zs[i]? =some x→vzs[i]? =some y→AS c h x y)→Dv zs k= .v z→vzs[k]? =some z:=fun {zs vzs z} hl hr hn=>by
   unfold Dv at hn;cases hz:zs[k]? with
   | none=>rw [hz] at hn;cases hn
   | some x =>
    rw [hz] at hn;simp only [Option.getD_some] at hn;subst hn;have hlt:k<vzs.size:=by rw [←hl];exact (List.getElem?_eq_some_iff.1 hz).1
    have:=hr k _ vzs[k] hz (by simp [hlt]);have e:=As this;simp [hlt,e]
  have hu:=SI hT hte rfl;have hagF:(isAgg e).run P w= .ok false w:=by simp [isAgg,run_underlying hu]
  simp only [VI] at he;simp only [List.range'_succ,Op.eqItems];split at he
  ·rename_i q a q' b' hx hy;have e1:=at1 l1 k1 hx;have e2:=at1 l2 k2 hy;split at he
   ·rename_i hk;subst hk;split at he
    ·rename_i r hr;injection he with he
     subst he;have ih:=Rt hT hte l1 l2 k1 k2 n (k+1) w r hr;simp only [Sem.run_bind,part,hagF,Result.andThen_ok,Nat.mul_one,e1,e2,Bool.false_eq_true,if_false,Sem.run_pure,run_equalIn_int w 9998 e q kk a b' hu];cases hab:a==b'
     ·simp
     ·simp [ih]
    ·cases he
   ·cases he
  ·cases he
theorem cM {op:BinOp} {ty ty' :Nat} {X Y:Operand} {a b:AV} (hT:CQ P T) (ho:o.op= .binOp op ty X Y ty') (hh:BH c h) (ha:AS c h a (ρ X)) (hb:AS c h b (ρ Y)) (hp:N2 T h op (T ty) a b= .out p x us) (hq:p):IL P c h (execOp ρ o) x (Bc us h):=by
 unfold N2 at hp;split at hp
 ·exact Zv ho hh (As ha) (As hb) hp hq
 ·rename_i a' b';have hX:=As ha;have hY:=As hb;split at hp
  ·rename_i ht;have hu:=aK hT ht rfl;split at hp
   ·injection hp with h1 h2 h3
    subst h2 h3;exact .val (y:= .bool (a' ==b')) (by simp [execOp,ho,hX,hY,eqGuard,run_eql_bool (P:=P) c.w ty a' b' hu]) hh (.v _)
   ·injection hp with h1 h2 h3
    subst h2 h3;exact .val (y:= .bool (a' != b')) (by simp [execOp,ho,hX,hY,eqGuard,run_neq_bool (P:=P) c.w ty a' b' hu,bne]) hh (.v _)
   ·cases hp
  ·cases hp
 ·have hY:=As hb;split at hp
  ·rename_i ht;have hu:=DG hT ht rfl;split at hp
   ·rename_i q b' hn;split at hp
    ·injection hp with h1 h2 h3
     subst h1 h2 h3;obtain ⟨A,n,m,hX,rfl⟩:=Ms ha hn hq;exact .val (y:= .bool A.isNone) (by simp [execOp,ho,hX,hY,eqGuard,Lib.run_eql_slice_nil c.w ty _ A n m 0 0 hu]) hh (.v _)
    ·injection hp with h1 h2 h3
     subst h1 h2 h3;obtain ⟨A,n,m,hX,rfl⟩:=Ms ha hn hq;exact .val (y:= .bool !A.isNone) (by simp [execOp,ho,hX,hY,eqGuard,run_neq_slice_nil_any c.w ty _ A n m 0 0 hu]) hh (.v _)
    ·cases hp
   ·cases hp
  ·cases hp
 ·rename_i xs ys;split at hp
  ·rename_i fs ht;split at hp
   ·rename_i b he;obtain ⟨F,hu,hF⟩:=Tt hT ht rfl;have hfine:=Tn hT ht hu;unfold PW at hfine;simp only [Bool.and_eq_true,List.all_eq_true,decide_eq_true_eq,Bool.not_eq_true'] at hfine;generalize hX:ρ X=vx at *;generalize hY:ρ Y=vy at *;cases ha with
    | agg _ vxs l1 k1 =>
    cases hb with
    | agg _ vys l2 k2 =>
    have hfo:P.fieldsOf ty=F:=by unfold Program.fieldsOf;rw [hu]
    have hE:∀w,(Op.equalIn 10000 ty (.agg vxs) (.agg vys)).run P w= .ok b w:=fun w=>by
     rw [show (10000:Nat)=9999+1 from rfl,run_equalIn_struct w 9999 ty vxs vys (by rw [hfo];exact hu) hfine.2.1,hfo];exact Ph hT l1 l2 k1 k2 F.toList (fun f hf=>hfine.1 f hf) w b (by rw [hF];exact he)
    split at hp
    ·injection hp with h1 h2 h3
     subst h2 h3;exact .val (y:= .bool b) (by simp [execOp,ho,hX,hY,run_eqGuard_agg (P:=P) c.w .eql ty X Y vxs vys hfine.2.2,run_eql_struct,hE]) hh (.v _)
    ·injection hp with h1 h2 h3
     subst h2 h3;exact .val (y:= .bool !b) (by simp [execOp,ho,hX,hY,run_eqGuard_agg (P:=P) c.w .neq ty X Y vxs vys hfine.2.2,run_neq_struct,hE]) hh (.v _)
    ·cases hp
   ·cases hp
  ·rename_i n e ht;split at hp
   ·rename_i hte;split at hp
    ·rename_i b he;have hu:=Po hT ht rfl;have hfine:=Tn hT ht hu;unfold PW at hfine;simp only [Bool.not_eq_true'] at hfine;obtain ⟨j,d,z,hj1,_⟩:=Cd hT hte;have hc:P.cellsOf e=1:=by
      have e1:=Dr hT hte c.w;rw [run_sizeOf c.w hj1] at e1;injection e1
     generalize hX:ρ X=vx at *;generalize hY:ρ Y=vy at *;cases ha with
     | agg _ vxs l1 k1 =>
     cases hb with
     | agg _ vys l2 k2 =>
     have hE:∀w,(Op.equalIn 10000 ty (.agg vxs) (.agg vys)).run P w= .ok b w:=fun w=>by
      rw [show (10000:Nat)=9999+1 from rfl,run_equalIn_array (w:=w) 9999 vxs vys hu hj1,hc,List.range_eq_range'];exact Rt hT hte l1 l2 k1 k2 n 0 w b he
     split at hp
     ·injection hp with h1 h2 h3
      subst h2 h3;exact .val (y:= .bool b) (by simp [execOp,ho,hX,hY,run_eqGuard_agg (P:=P) c.w .eql ty X Y vxs vys hfine,run_eql_struct,hE]) hh (.v _)
     ·injection hp with h1 h2 h3
      subst h2 h3;exact .val (y:= .bool !b) (by simp [execOp,ho,hX,hY,run_eqGuard_agg (P:=P) c.w .neq ty X Y vxs vys hfine,run_neq_struct,hE]) hh (.v _)
     ·cases hp
    ·cases hp
   ·cases hp
  ·cases hp
 ·cases hp
theorem gX {op:UnOp} {ty:Nat} {X:Operand} {a:AV} (ho:o.op= .unOp op ty X) (hh:BH c h) (ha:AS c h a (ρ X)) (hp:eF op a= .out p x us):IL P c h (execOp ρ o) x (Bc us h):=by
 unfold eF at hp;split at hp
 ·injection hp with h1 h2 h3
  subst h2 h3;exact .val (by simp [execOp,ho,As ha,Op.unary]) hh (.v _)
 ·injection hp with h1 h2 h3
  subst h2 h3;exact .val (by simp [execOp,ho,As ha,Op.unary,Op.intArith]) hh (.v _)
 ·cases hp
theorem XL {s d:Nat} {X:Operand} {a:AV} (hT:CQ P T) (ho:o.op= .convert s d X) (hh:BH c h) (ha:AS c h a (ρ X)) (hp:NO (T s) (T d) a= .out p x us):IL P c h (execOp ρ o) x (Bc us h):=by
 unfold NO at hp;split at hp
 ·split at hp
  ·rename_i hs hd;injection hp with h1 h2 h3
   subst h2 h3;obtain ⟨_,ds,_,_,h5,_⟩:=Cd hT hs;have hu:=SI hT hd rfl;exact .val (by simp [execOp,ho,As ha,convert,run_underlying h5,run_underlying hu,Conv.intToInt]) hh (.v _)
  ·cases hp
 ·cases hp
theorem P8 {s f:Nat} {X:Operand} {a:AV} (hT:CQ P T) (ho:o.op= .fieldAddr s X f) (hh:BH c h) (ha:AS c h a (ρ X)) (hp:DZ T h (T s) f a= .out p x us) (hq:p):IL P c h (execOp ρ o) x (Bc us h):=by
 unfold DZ at hp;split at hp
 ·rename_i fs ht;obtain ⟨F,hu,hF⟩:=Tt hT ht rfl;split at hp
  ·rename_i off ft hf;split at hp
   ·rename_i i hft;have hFf:∃fl,F[f]? =some fl∧fl.offset=off∧fl.type=ft:=by
     rw [←hF] at hf;simp only [List.getElem?_map,Option.map_eq_some_iff] at hf;obtain ⟨fl,h1,h2⟩:=hf;injection h2 with h2 h3
     exact ⟨fl,by simpa using h1,h2,h3⟩
    obtain ⟨fl,hfl,rfl,rfl⟩:=hFf;have hsz:=Dr hT hft c.w;have run:∀b o',i.size≠0→ρ X= .pointer (some ⟨b,o',none⟩)→(execOp ρ o).run P c.w= .ok (.value (.pointer (some ⟨b,o' +fl.offset,none⟩))) c.w:=fun b o' h0 hX=>by
     simp [execOp,ho,hX,Instr.fieldAt,run_underlying hu,hfl,Instr.sureAddr,fieldPlace,hsz,h0,Addr.add_lit]
    split at hp
    ·rename_i r g k j;split at hp
     ·rename_i g' sz es hr;injection hp with h1 h2 h3
      subst h1 h2 h3;obtain ⟨rfl,h0⟩:=hq;cases ha with
      | ref _ _ _ _ _ _ hg =>
       have hg' :=hg;rw [hr] at hg;have hy:=hg.2 rfl;refine .val (run _ _ h0 hy) hh (.ref _ _ _ _ _ rfl ?_);rw [hr];exact ⟨Nat.le_refl _,fun _=>by simp [Nat.add_assoc]⟩
     ·cases hp
    ·rename_i fl' sz es k j;injection hp with h1 h2 h3
     subst h1 h2 h3;generalize hy:ρ X=y at *;cases ha with
     | isp _ _ _ _ _ b o' ys hs hz hc hr=>exact .val (run _ _ hq rfl) hh (by rw [Nat.add_assoc];exact .isp _ _ _ _ _ b o' ys hs hz hc hr)
    ·cases hp
   ·cases hp
  ·cases hp
 ·cases hp
theorem QD {t:Nat} {X I:Operand} {a i:AV} (hT:CQ P T) (ho:o.op= .indexAddr t X I) (hh:BH c h) (ha:AS c h a (ρ X)) (hi:AS c h i (ρ I)) (hp:Db T h (T t) a i= .out p x us) (hq:p):IL P c h (execOp ρ o) x (Bc us h):=by
 unfold Db at hp;split at hp
 ·rename_i e kk n ht;have hI:=As hi;have hu:=DG hT ht rfl;split at hp
  ·rename_i ei hte;have hsz:=Dr hT hte c.w;have run:∀(b o' m cap:Nat),0≤n→n<(m:Int)→ρ X= .slice (some ⟨b,o',none⟩) m cap→(execOp ρ o).run P c.w= .ok (.value (.pointer (some ⟨b,o' +n.toNat*ei.size,none⟩))) c.w:=fun b o' m cap h0 h1 hX=>by
    simp [execOp,ho,hX,hI,Instr.indexAt,asIntOf,run_underlying hu,hsz,h0,h1,Addr.add_lit]
   split at hp
   ·rename_i r g o' m;split at hp
    ·rename_i g' sz es hr;injection hp with h1 h2 h3
     subst h1 h2 h3;obtain ⟨rfl,rfl,h0,h1⟩:=hq;cases ha with
     | rsl _ _ _ _ _ _ hg =>
      rw [hr] at hg;obtain ⟨A,cap,hy,hc,_,hA⟩:=hg.2 rfl;obtain ⟨_,rfl,_⟩:=hA (by omega);refine .val (run _ _ _ _ h0 h1 hy) hh (.ref _ _ _ _ _ rfl ?_);rw [hr];exact ⟨Nat.le_refl _,fun _=>by simp [Nat.add_mul]⟩
    ·cases hp
   ·rename_i f sz es;injection hp with h1 h2 h3
    subst h1 h2 h3;obtain ⟨rfl,h0,h1⟩:=hq;generalize hy:ρ X=y at *;cases ha with
    | slE=>simp at h1;omega
    | sl _ _ _ b o' cap ys hl hm hs hz hc hr=>exact .val (run _ _ _ _ h0 h1 rfl) hh (.isp _ _ _ _ 0 b o' ys hs hz hc hr)
   ·cases hp
  ·cases hp
 ·rename_i m e kk n ht;have hI:=As hi;have hu:=Po hT ht rfl;split at hp
  ·rename_i ei hte;have hsz:=Dr hT hte c.w;have run:∀b o',0≤n→n<(m:Int)→ρ X= .pointer (some ⟨b,o',none⟩)→(execOp ρ o).run P c.w= .ok (.value (.pointer (some ⟨b,o' +n.toNat*ei.size,none⟩))) c.w:=fun b o' h0 h1 hX=>by
    simp [execOp,ho,hX,hI,Instr.indexAt,Instr.sureAddr,asIntOf,run_underlying hu,hsz,h0,h1,Addr.add_lit]
   split at hp
   ·rename_i r g k j;split at hp
    ·rename_i g' sz es hr;injection hp with h1 h2 h3
     subst h1 h2 h3;obtain ⟨rfl,h0,h1⟩:=hq;cases ha with
     | ref _ _ _ _ _ _ hg =>
      rw [hr] at hg;have hy:=hg.2 rfl;refine .val (run _ _ h0 h1 hy) hh (.ref _ _ _ _ _ rfl ?_);rw [hr];exact ⟨Nat.le_refl _,fun _=>by simp [Nat.add_assoc]⟩
    ·cases hp
   ·rename_i f sz es k j;injection hp with h1 h2 h3
    subst h1 h2 h3;generalize hy:ρ X=y at *;cases ha with
    | isp _ _ _ _ _ b o' ys hs hz hc hr=>exact .val (run _ _ hq.1 hq.2 rfl) hh (by rw [Nat.add_assoc];exact .isp _ _ _ _ _ b o' ys hs hz hc hr)
   ·cases hp
  ·cases hp
 ·cases hp
theorem aS {t:Nat} {X:Operand} {a:AV} {at' :Array Nat} (hT:CQ P T) (ho:o.op= .call ⟨.builtin .len,#[X],at'⟩) (hat:at'[0]? =some t) (hh:BH c h) (ha:AS c h a (ρ X)) (hp:PE h (T t) a= .out p x us) (hq:p):IL P c h (execOp ρ o) x (Bc us h):=by
 have run:∀n:Nat,(Builtin.len_ at' o.type #[ρ X]).run P c.w= .ok (.int .i64 n) c.w→IL P c h (execOp ρ o) (.v (.int .i64 n)) h:=fun n hr =>
  .val (by simp [execOp,ho,resolve,invoke,builtin,hr]) hh (.v _)
 unfold PE at hp;split at hp
 ·split at hp
  ·rename_i ht;injection hp with h1 h2 h3
   subst h2 h3;have hu:=DG hT ht rfl;refine run _ ?_;generalize hy:ρ X=y at *;cases ha<;>simp [Builtin.len_,hat,run_underlying hu,goInt]
  ·cases hp
 ·split at hp
  ·rename_i ht;have hu:=DG hT ht rfl;split at hp
   ·rename_i g' sz es hr;injection hp with h1 h2 h3
    subst h1 h2 h3;subst hq;refine run _ ?_;cases ha with
    | rsl _ _ _ _ _ _ hg =>
     rw [hr] at hg;obtain ⟨A,cap,hy,_⟩:=hg.2 rfl;simp [Builtin.len_,hat,run_underlying hu,goInt,hy]
   ·cases hp
  ·cases hp
 ·split at hp
  ·rename_i ht;injection hp with h1 h2 h3
   subst h2 h3;have hu:=DG hT ht rfl;exact run _ (by simp [Builtin.len_,hat,run_underlying hu,goInt,As ha])
  ·cases hp
 ·split at hp
  ·rename_i ht;injection hp with h1 h2 h3
   subst h2 h3;have hu:=iB hT ht rfl;exact run _ (by simp [Builtin.len_,hat,run_underlying hu,goInt,As ha])
  ·cases hp
 ·cases hp
end
end Go.Proofs.YthblfhgofopcaaaGreat
