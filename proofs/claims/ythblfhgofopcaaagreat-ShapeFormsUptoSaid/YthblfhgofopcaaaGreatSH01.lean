/-
  Parts of the proof: Mem, VmA, VmB.
-/
import Derived.WalkKit
import Derived.WalkSpells
import Derived.WalkLawsBesides
import Derived.Maps.AppendAt
import Derived.Deep.AppendLies
import Derived.Deep.Draws
import Derived.Deep.DeepMust
import Derived.Deep.DeepFit
import Derived.Deep.AppendSrc
import Derived.Laws.CopyRow
set_option linter.all false
namespace Go.Proofs.YthblfhgofopcaaaGreat
open Go.RowKit
theorem BP {p:Prop} (h:p):Hid p:=h
abbrev Ke (zs:List Int):List Value:=zs.map (Value.int .i64)
theorem Iq (a:Addr) (n:Nat):(a.add n).block=a.block:=by unfold Addr.add;split<;>rfl
theorem add_add (a:Addr) (i j:Nat):(a.add i).add j=a.add (i+j):=by
 unfold Addr.add;by_cases hi:i=0<;>by_cases hj:j=0<;>simp [hi,hj,Nat.add_assoc]
def Aw (w w' :World):Prop:=Below w.heap.size w w'
section
variable {a w w' w'' :World}
theorem Aw.refl (w:World):Aw w w:=Below.refl _ _
theorem Aw.trans (h:Aw a w) (k:Aw w w'):Aw a w' :=Below.trans h (Below.mono k (Below.size h))
theorem Aw.size (h:Aw a w):a.heap.size≤w.heap.size:=Below.size h
theorem Aw.alloc (h:Aw a w) (o:Obj):Aw a (w.alloc o):=Below.alloc h h.size o
theorem Aw.drew (h:Aw a w):Aw a w.drew:=Below.drew h
theorem Aw.drewN (h:Aw a w) (n:Nat):Aw a (w.drewN n):=⟨h.os,h.tape,h.output,h.size,h.block⟩
theorem Aw.set (h:Aw a w) {p:Addr} (hp:a.heap.size≤p.block) (u:Value):Aw a (w.setCell p u):=Below.setCell h hp u
theorem Aw.cell (h:Aw a w) {p:Addr} (hp:p.block<a.heap.size):w.cell? p=a.cell? p:=Below.cell h hp
theorem Aw.cell_some (h:Aw a w) {p:Addr} {v:Value} (hp:a.cell? p=some v):w.cell? p=some v:=(h.cell (World.block_lt_of_cell? a p hp)).trans hp
theorem Aw.blk (h:Aw a w) {k:Nat} (hp:k<a.heap.size):w.heap[k]? =a.heap[k]? :=h.block k hp
theorem Aw.blk_some (h:Aw a w) {k:Nat} {o:Obj} (hp:a.heap[k]? =some o):w.heap[k]? =some o:=(h.block k (lt_of_block hp)).trans hp
end
def Rd (w:World) (A:Option Addr) (xs:List Value):Prop :=
 ∀(i:Nat) (u:Value),xs[i]? =some u→∃ad,A=some ad∧ad.block<w.heap.size∧w.cell? (ad.add i)=some u
section
variable {w w' :World} {A:Option Addr} {xs:List Value}
theorem Rd.nil:Rd w A []:=fun i u h=>by simp at h
theorem Rd.grow (h:Rd w A xs) (g:Aw w w'):Rd w' A xs:=fun i u hu=>by
 obtain ⟨ad,e,hb,hc⟩:=h i u hu;exact ⟨ad,e,Nat.lt_of_lt_of_le hb g.size,by rw [g.cell (by rw [Iq];exact hb)];exact hc⟩
theorem Rd.int {zs:List Int} (h:Rd w A (Ke zs)) {k:Nat} (hk:k<zs.length):∃ad,A=some ad∧ad.block<w.heap.size∧w.cell? (ad.add k)=some (.int .i64 zs[k]) :=
 h k _ (by simp [hk])
theorem Rd.of_own {base:Nat} {e:TypeId} {size n c:Nat} (h:w.ownsRow base e size (.slice A n c) n xs):Rd w A xs:=fun i u hu=>by
 rcases h.2 with ⟨hv,hn⟩ | ⟨g,cap,cur,hv,_,hg,_⟩
 ·have:=h.1;subst hn;have:xs=[]:=List.eq_nil_of_length_eq_zero (by simpa using this);subst this;simp at hu
 ·have hA:A=some ⟨g,0,none⟩:=by injection hv
  subst hA;exact ⟨_,rfl,lt_of_block hg,h.cells (g:=g) rfl i u hu⟩
end
def BO (w:World) (v:Value) (zs:List Int):Prop :=
 ∃A c,v= .slice A zs.length c∧zs.length≤c∧c≤maxLen∧Rd w A (Ke zs)
section
variable {w w' :World} {v:Value} {zs:List Int}
theorem BO.grow (h:BO w v zs) (g:Aw w w'):BO w' v zs:=by
 obtain ⟨A,c,e,h1,h2,h3⟩:=h;exact ⟨A,c,e,h1,h2,h3.grow g⟩
theorem BO.nil:BO w (.slice none 0 0) []:=⟨none,0,rfl,Nat.le_refl _,Nat.zero_le _,Rd.nil⟩
theorem BO.of_own {base:Nat} (h:w.ownsRow base 3 1 v zs.length (Ke zs)):BO w v zs:=by
 rcases h.2 with ⟨rfl,hn⟩ | ⟨g,cap,cur,rfl,_,_,hn,hm,_⟩
 ·have hz:zs=[]:=List.eq_nil_of_length_eq_zero hn;subst hz;exact BO.nil
 ·exact ⟨_,_,rfl,hn,hm,Rd.of_own h⟩
end
inductive AV where
 | any
 | v (x:Value)
 | agg (l:List AV)
 | tup (l:List AV)
 | sl (f:Bool) (sz:Nat) (es:List AV)
 | isp (f:Bool) (sz:Nat) (es:List AV) (i j:Nat)
 | ref (r g k j:Nat)
 | rsl (r g o n:Nat)
 | clo (f:Nat) (l:List AV)
def AV.cs:AV→List AV
 | .agg l=>l
 | x=>[x]
def AV.one:AV→Bool
 | .v x=>x.oneCell'
 | .sl .. | .isp .. | .ref .. | .rsl .. | .clo .. =>true
 | _=>false
inductive Ob where
 | nil
 | dead
 | arr (g sz:Nat) (es:List AV)
abbrev HF:=Nat→Ob
structure Cx where
 w:World
 bl:Nat→Nat
 rl:Nat→Bool
 okT:Nat→Prop
 okF:Nat→Prop
 n0:Nat
def dL (c:Cx) (h:HF) (b:Nat):Prop:=∃r g sz es,h r= .arr g sz es∧c.rl r=true∧c.bl r=b
def Dx (c:Cx) (h:HF) (f:Bool) (b:Nat):Prop:=b<c.w.heap.size∧¬dL c h b∧(c.n0≤b∨c.okT b∨(f=false∧c.okF b))
def Lg (o:Ob) (g:Nat) (Q:Nat→Prop):Prop:=match o with
 | .nil=>False
 | .dead=>True
 | .arr g' sz _=>g≤g' ∧(g=g' →Q sz)
def aG (c:Cx) (r o n:Nat) (y:Value) (sz:Nat):Prop :=
 ∃A cap,y= .slice A n cap∧n≤cap∧cap≤maxLen∧(0<cap→c.rl r=true∧A=some ⟨c.bl r,o*sz,none⟩∧∃cs ty,c.w.heap[c.bl r]? =some (.cells cs ty (0,0))∧(o+cap)*sz≤cs.size)
inductive AS (c:Cx) (h:HF):AV→Value→Prop
 | any (y:Value):AS c h .any y
 | v (x:Value):AS c h (.v x) x
 | agg (l:List AV) (ys:Array Value):l.length=ys.size→(∀(i:Nat) (x:AV) (y:Value),l[i]? =some x→ys[i]? =some y→AS c h x y)→AS c h (.agg l) (.agg ys)
 | tup (l:List AV) (ys:Array Value):l.length=ys.size→(∀(i:Nat) (x:AV) (y:Value),l[i]? =some x→ys[i]? =some y→AS c h x y)→AS c h (.tup l) (.tuple ys)
 | slE (f:Bool) (sz:Nat) (A:Option Addr) (cap:Nat):cap≤maxLen→AS c h (.sl f sz []) (.slice A 0 cap)
 | sl (f:Bool) (sz:Nat) (es:List AV) (b o cap:Nat) (ys:Nat→Nat→Value):es.length≤cap→cap≤maxLen→Dx c h f b→(∀(i:Nat) (e:AV),es[i]? =some e→e.cs.length=sz)→
   (∀(i:Nat) (e:AV) (j:Nat) (x:AV),es[i]? =some e→e.cs[j]? =some x→c.w.cell? ⟨b,o+i*sz+j,none⟩=some (ys i j))→
   (∀(i:Nat) (e:AV) (j:Nat) (x:AV),es[i]? =some e→e.cs[j]? =some x→AS c h x (ys i j))→AS c h (.sl f sz es) (.slice (some ⟨b,o,none⟩) es.length cap)
 | isp (f:Bool) (sz:Nat) (es:List AV) (k m:Nat) (b o:Nat) (ys:Nat→Nat→Value):Dx c h f b→(∀(i:Nat) (e:AV),es[i]? =some e→e.cs.length=sz)→
   (∀(i:Nat) (e:AV) (j:Nat) (x:AV),es[i]? =some e→e.cs[j]? =some x→c.w.cell? ⟨b,o+i*sz+j,none⟩=some (ys i j))→
   (∀(i:Nat) (e:AV) (j:Nat) (x:AV),es[i]? =some e→e.cs[j]? =some x→AS c h x (ys i j))→AS c h (.isp f sz es k m) (.pointer (some ⟨b,o+k*sz+m,none⟩))
 | ref (r g k j:Nat) (y:Value):y.oneCell' =true→Lg (h r) g (fun sz=>y= .pointer (some ⟨c.bl r,k*sz+j,none⟩))→AS c h (.ref r g k j) y
 | rsl (r g o n:Nat) (y:Value):y.oneCell' =true→Lg (h r) g (aG c r o n y)→AS c h (.rsl r g o n) y
 | clo (f:Nat) (l:List AV) (ys:Array Value):l.length=ys.size→(∀(i:Nat) (x:AV) (y:Value),l[i]? =some x→ys[i]? =some y→AS c h x y)→AS c h (.clo f l) (.func (.func f) #[] ys)
structure BH (c:Cx) (h:HF):Prop where
 ar:∀r g sz es,h r= .arr g sz es→c.rl r=true→∃cs ty,c.w.heap[c.bl r]? =some (.cells cs ty (0,0))∧es.length*sz≤cs.size∧(∀(i:Nat) (e:AV),es[i]? =some e→e.cs.length=sz)∧
  ∀(i:Nat) (e:AV) (j:Nat) (x:AV),es[i]? =some e→e.cs[j]? =some x→∃y,cs[i*sz+j]? =some y∧AS c h x y
 em:∀r g sz es,h r= .arr g sz es→c.rl r=false→es=[]
 inj:∀r r' g g' sz sz' es es',h r= .arr g sz es→h r' = .arr g' sz' es' →c.rl r=true→c.rl r' =true→c.bl r=c.bl r' →r=r'
def Pk (c:Cx) (h:HF) (c' :Cx) (h' :HF):Prop :=
 ∀r g sz es,h r= .arr g sz es→h' r= .dead∨∃g' es',h' r= .arr g' sz es' ∧g≤g' ∧(g=g' →c'.bl r=c.bl r∧c'.rl r=c.rl r∧(c.rl r=true→∀cs ty,c.w.heap[c.bl r]? =some (.cells cs ty (0,0))→∃cs',c'.w.heap[c.bl r]? =some (.cells cs' ty (0,0))∧cs'.size=cs.size))
structure pZ (c:Cx) (h:HF) (c' :Cx) (h' :HF):Prop where
 st:∀f b,Dx c h f b→Dx c' h' f b∧∀o,c'.w.cell? ⟨b,o,none⟩=c.w.cell? ⟨b,o,none⟩
 dd:∀r,h r= .dead→h' r= .dead
 ar:Pk c h c' h'
theorem Lg.ext {c c' :Cx} {h h' :HF} (e:pZ c h c' h') {r g:Nat} {Q Q' :Nat→Prop} (k:Lg (h r) g Q)
  (hq:∀sz es es',h r= .arr g sz es→h' r= .arr g sz es' →c'.bl r=c.bl r→c'.rl r=c.rl r→(c.rl r=true→∀cs ty,c.w.heap[c.bl r]? =some (.cells cs ty (0,0))→∃cs',c'.w.heap[c.bl r]? =some (.cells cs' ty (0,0))∧cs'.size=cs.size)→Q sz→Q' sz):Lg (h' r) g Q' :=by
 unfold Lg at k;cases hr:h r with
 | nil=>rw [hr] at k;exact k.elim
 | dead=>rw [e.dd r hr];trivial
 | arr g0 sz es =>
  rw [hr] at k;rcases e.ar r g0 sz es hr with hd | ⟨g1,es',h1,hle,heq⟩
  ·rw [hd];trivial
  ·rw [h1];refine ⟨Nat.le_trans k.1 hle,fun hg=> ?_⟩;have h2:g0=g1:=Nat.le_antisymm hle (hg ▸ k.1);subst hg;subst h2;obtain ⟨b1,b2,b3⟩:=heq rfl;exact hq sz es es' hr h1 b1 b2 b3 (k.2 rfl)
theorem AS.ext {c c' :Cx} {h h' :HF} (e:pZ c h c' h') {x:AV} {y:Value} (k:AS c h x y):AS c' h' x y:=by
 induction k with
 | any y=>exact .any y
 | v x=>exact .v x
 | agg l ys hl _ ih=>exact .agg l ys hl ih
 | tup l ys hl _ ih=>exact .tup l ys hl ih
 | slE f sz A cap hc=>exact .slE f sz A cap hc
 | sl f sz es b o cap ys h1 h2 hs hz hc _ ih =>
  obtain ⟨hs',hcell⟩:=e.st f b hs;exact .sl f sz es b o cap ys h1 h2 hs' hz (fun i e j x he hj=>by rw [hcell];exact hc i e j x he hj) ih
 | isp f sz es k m b o ys hs hz hc _ ih =>
  obtain ⟨hs',hcell⟩:=e.st f b hs;exact .isp f sz es k m b o ys hs' hz (fun i e j x he hj=>by rw [hcell];exact hc i e j x he hj) ih
 | ref r g k j y h1 hg=>exact .ref r g k j y h1 (hg.ext e fun sz es es' _ _ hb _ _ hq=>by rw [hb];exact hq)
 | rsl r g o n y h1 hg =>
  refine .rsl r g o n y h1 (hg.ext e fun sz es es' _ _ hb hr hcs hq=> ?_);obtain ⟨A,cap,hy,hn,hm,hp⟩:=hq;refine ⟨A,cap,hy,hn,hm,fun h0=> ?_⟩;obtain ⟨hrl,hA,cs,ty,hcell,hsz⟩:=hp h0;obtain ⟨cs',h1,h2⟩:=hcs hrl cs ty hcell;exact ⟨by rw [hr];exact hrl,by rw [hb];exact hA,cs',ty,by rw [hb];exact h1,by omega⟩
 | clo f l ys hl _ ih=>exact .clo f l ys hl ih
theorem AS.oneCell {c:Cx} {h:HF} {x:AV} {y:Value} (k:AS c h x y) (h1:x.one=true):y.oneCell' =true:=by
 cases k with
 | v x=>exact h1
 | ref r g k j y h2 _=>exact h2
 | rsl r g o n y h2 _=>exact h2
 | any=>cases h1
 | agg=>cases h1
 | tup=>cases h1
 | _=>rfl
class DM where
 lax:Bool
instance (priority:=low) dmLax:DM:=⟨true⟩
variable [DM]
structure Bj (c:Cx) (h:HF) (c' :Cx) (h' :HF):Prop where
 os:c'.w.os=c.w.os
 tape:c'.w.tape=c.w.tape
 output:c'.w.output=c.w.output
 size:c.w.heap.size≤c'.w.heap.size
 blk:∀b,b<c.w.heap.size→¬dL c h b→c'.w.heap[b]? =c.w.heap[b]?
 dd:∀r,h r= .dead→h' r= .dead
 ar:Pk c h c' h'
 fr:∀r g sz es,h' r= .arr g sz es→c'.rl r=true→c.w.heap.size≤c'.bl r∨∃g0 es0,h r= .arr g0 sz es0∧c.rl r=true∧c'.bl r=c.bl r
 okT:c'.okT=c.okT
 okF:c'.okF=c.okF
 n0:c'.n0=c.n0
 dr:DM.lax=true∨c.w.drawn≤c'.w.drawn
theorem Bj.mut {c c' :Cx} {h h' :HF} (k:Bj c h c' h') {b:Nat} (hb:b<c.w.heap.size) (hm:¬dL c h b):¬dL c' h' b:=by
 rintro ⟨r,g,sz,es,hr,hl,hbl⟩;rcases k.fr r g sz es hr hl with h1 | ⟨g0,es0,h0,hl0,hb0⟩
 ·omega
 ·exact hm ⟨r,g0,sz,es0,h0,hl0,by rw [←hb0];exact hbl⟩
theorem Bj.ext {c c' :Cx} {h h' :HF} (k:Bj c h c' h'):pZ c h c' h' where
 st f b hs:=by
  obtain ⟨hb,hm,hk⟩:=hs;refine ⟨⟨Nat.lt_of_lt_of_le hb k.size,k.mut hb hm,by rw [k.n0,k.okT,k.okF];exact hk⟩,fun o=> ?_⟩;exact World.cell?_of_block (a:=⟨b,o,none⟩) (k.blk b hb hm)
 dd:=k.dd;ar:=k.ar
theorem Pk.refl (c:Cx) (h:HF):Pk c h c h:=fun _r g _sz es hr=> .inr ⟨g,es,hr,Nat.le_refl _,fun _=>⟨rfl,rfl,fun _ cs _ty h=>⟨cs,h,rfl⟩⟩⟩
theorem Pk.trans {c c1 c2:Cx} {h h1 h2:HF} (k:Pk c h c1 h1) (k2:Pk c1 h1 c2 h2) (d:∀r,h1 r= .dead→h2 r= .dead):Pk c h c2 h2:=fun r g sz es hr=>by
 rcases k r g sz es hr with hd | ⟨g1,es1,hr1,hle,heq⟩
 ·exact .inl (d r hd)
 ·rcases k2 r g1 sz es1 hr1 with hd | ⟨g2,es2,hr2,hle2,heq2⟩
  ·exact .inl hd
  ·refine .inr ⟨g2,es2,hr2,Nat.le_trans hle hle2,fun hg=> ?_⟩;have e1:g=g1:=by omega
   have e2:g1=g2:=by omega
   obtain ⟨a1,a2,a3⟩:=heq e1;obtain ⟨b1,b2,b3⟩:=heq2 e2;refine ⟨b1.trans a1,b2.trans a2,fun hl cs ty hc=> ?_⟩;obtain ⟨cs1,hc1,hs1⟩:=a3 hl cs ty hc;obtain ⟨cs2,hc2,hs2⟩:=b3 (a2.trans hl) cs1 ty (by rw [a1];exact hc1);rw [a1] at hc2;exact ⟨cs2,hc2,hs2.trans hs1⟩
theorem Bj.refl (c:Cx) (h:HF):Bj c h c h:=⟨rfl,rfl,rfl,Nat.le_refl _,fun _ _ _=>rfl,fun _ h=>h,Pk.refl _ _,fun _r g _sz es hr hl=> .inr ⟨g,es,hr,hl,rfl⟩,rfl,rfl,rfl, .inr (Nat.le_refl _)⟩
theorem Bj.trans {c c1 c2:Cx} {h h1 h2:HF} (k:Bj c h c1 h1) (k2:Bj c1 h1 c2 h2):Bj c h c2 h2 where
 os:=k2.os.trans k.os
 tape:=k2.tape.trans k.tape
 output:=k2.output.trans k.output
 size:=Nat.le_trans k.size k2.size
 blk b hb hm:=(k2.blk b (Nat.lt_of_lt_of_le hb k.size) (k.mut hb hm)).trans (k.blk b hb hm)
 dd r hr:=k2.dd r (k.dd r hr)
 ar:=k.ar.trans k2.ar k2.dd
 fr r g sz es hr hl:=by
  rcases k2.fr r g sz es hr hl with h3 | ⟨g1,es1,hr1,hl1,hb1⟩
  ·exact .inl (Nat.le_trans k.size h3)
  ·rcases k.fr r g1 sz es1 hr1 hl1 with h3 | ⟨g0,es0,hr0,hl0,hb0⟩
   ·exact .inl (by rw [hb1];exact h3)
   ·exact .inr ⟨g0,es0,hr0,hl0,hb1.trans hb0⟩
 okT:=k2.okT.trans k.okT;okF:=k2.okF.trans k.okF;n0:=k2.n0.trans k.n0;dr:=by
  rcases k.dr with h | h
  ·exact .inl h
  ·rcases k2.dr with h2 | h2
   ·exact .inl h2
   ·exact .inr (Nat.le_trans h h2)
theorem Bj.grow {c:Cx} {h:HF} {w' :World} (g:Aw c.w w') (hd:DM.lax=true∨c.w.drawn≤w'.drawn):Bj c h { c with w:=w' } h where
 os:=g.os
 tape:=g.tape
 output:=g.output
 size:=g.size
 blk _b hb _:=g.blk hb
 dd _ h:=h
 ar _r g1 _sz es hr:= .inr ⟨g1,es,hr,Nat.le_refl _,fun _=>⟨rfl,rfl,fun _ cs _ty hc=>⟨cs,g.blk_some hc,rfl⟩⟩⟩
 fr _r g1 _sz es hr hl:= .inr ⟨g1,es,hr,hl,rfl⟩
 okT:=rfl
 okF:=rfl
 n0:=rfl
 dr:=hd
theorem BH.keep_grow {c:Cx} {h:HF} {w' :World} (g:Aw c.w w') (hd:DM.lax=true∨c.w.drawn≤w'.drawn) (k:BH c h):BH { c with w:=w' } h where
 ar r g1 sz es hr hl:=by
  obtain ⟨cs,ty,h1,h2,h3,h4⟩:=k.ar r g1 sz es hr hl;exact ⟨cs,ty,g.blk_some h1,h2,h3,fun i e j x he hj=>by
   obtain ⟨y,hy,hv⟩:=h4 i e j x he hj
   exact ⟨y,hy,hv.ext (Bj.grow g hd).ext⟩⟩
 em:=k.em;inj:=k.inj
end Go.Proofs.YthblfhgofopcaaaGreat

namespace Go.Proofs.YthblfhgofopcaaaGreat
open Go.RowKit
variable [DM]
inductive TK where
 | int (k:IntKind)
 | bool
 | str
 | slice (e:Nat)
 | arr (n e:Nat)
 | st (fs:List (Nat×Nat))
 | other
structure TI where
 agg:Bool
 size:Nat
 bytes:Nat
 zero:List Value
 k:TK
def Uy:TypeDesc→TK
 | .int k=> .int k
 | .bool=> .bool
 | .string=> .str
 | .slice e=> .slice e
 | .array n e=> .arr n e
 | .struct fs=> .st (fs.toList.map fun f=>(f.offset,f.type))
 | _=> .other
def b9:TypeDesc→Bool
 | .struct _=>true
 | .array _ _=>true
 | _=>false
def PW (P:Program) (t:Nat):TypeDesc→Bool
 | .struct fs => (fs.toList.all fun f => decide (f.name ≠ "_")) && (!P.stoodInHeld t && !P.eqGuardType P.depth t)
 | .array _ _=> !P.eqGuardType P.depth t
 | _=>true
def bV (P:Program) (t:Nat):Option TI:=match P.info? t,P.underlying t with
 | some i,some d=>match i.zero with
  | some z=>if z.cells.size=i.size∧PW P t d=true then some ⟨b9 d,i.size,i.bytes,z.cells.toList,Uy d⟩ else none
  | none=>none
 | _,_=>none
abbrev Dj:=Nat→Option TI
def CQ (P:Program) (T:Dj):Prop:=∀t i,T t=some i→bV P t=some i
def Dv (l:List AV) (k:Nat):AV:=(l[k]?).getD .any
inductive Rs where
 | bad
 | out (p:Prop) (x:AV) (us:List (Nat×Ob))
 | call (f:Nat) (xs:List AV)
def Rs.pure (x:AV):Rs:= .out True x []
def Bc (us:List (Nat×Ob)) (h:HF):HF:=us.foldl (fun h u r=>if r=u.1 then u.2 else h r) h
def Ce:AV→Bool
 | .agg _=>true
 | x=>x.one
def Gf (i:TI):AV:=if i.agg then .agg (i.zero.map .v) else Dv (i.zero.map .v) 0
def Mt:AV→AV→AV→Rs
 | .v (.bool t),x,y=>match x,y with
  | .v (.bool a), .v (.bool b)=> .pure (.v (.bool (bif t then a else b)))
  | x,y=> .pure (bif t then x else y)
 | _,_,_=> .bad
def PD:AV→Bool
 | .agg _=>true
 | _=>false
theorem Ul {e:AV} (h:PD e=true):e= .agg e.cs:=by
 cases e<;>first | rfl | cases h
def Fv (i:TI) (sz:Nat) (e:AV) (j:Nat):Rs :=
 if i.agg then (if j=0∧i.size=sz then .out (PD e=true) e []
  else .out (j+i.size≤e.cs.length) (.agg ((e.cs.drop j).take i.size)) [])
 else .out (j<e.cs.length) (Dv e.cs j) []
def Rs.also (q:Prop):Rs→Rs
 | .out p x us=> .out (q∧p) x us
 | r=>r
def FA (i:TI) (h:HF):AV→Rs
 | .ref r g k j=>match h r with
  | .arr g' sz es=> .also (g' =g∧k<es.length) (Fv i sz (Dv es k) j)
  | _=> .bad
 | .isp _ sz es k j=> .also (k<es.length) (Fv i sz (Dv es k) j)
 | _=> .bad
def Ux (e x:AV) (sz n j:Nat):AV :=
 if j=0∧n=sz then x else .agg (e.cs.take j++x.cs++e.cs.drop (j+n))
def FS (i:TI) (h:HF) (x:AV):AV→Rs
 | .ref r g k j=>match h r with
  | .arr g' sz es=> .out (g' =g∧k<es.length∧x.cs.length=i.size∧(∀u∈x.cs,u.one=true)∧Ce x=true∧((j=0∧i.size=sz)∨(PD (Dv es k)=true∧j+i.size≤sz))) (.any) [(r, .arr g sz (es.set k (Ux (Dv es k) x sz i.size j)))]
  | _=> .bad
 | _=> .bad
def DZ (T:Dj) (h:HF) (s:Option TI) (f:Nat) (x:AV):Rs:=match s with
 | some ⟨_,_,_,_, .st fs⟩=>match fs[f]? with
  | some (off,ft)=>match T ft with
   | some i=>match x with
    | .ref r g k j=>match h r with
     | .arr g' _ _=> .out (g' =g∧i.size≠0) (.ref r g k (j+off)) []
     | _=> .bad
    | .isp fl sz es k j=> .out (i.size≠0) (.isp fl sz es k (j+off)) []
    | _=> .bad
   | none=> .bad
  | none=> .bad
 | _=> .bad
def Eu (T:Dj) (s:Option TI) (f:Nat) (x:AV):Rs:=match s with
 | some ⟨_,_,_,_, .st fs⟩=>match fs[f]? with
  | some (off,ft)=>match T ft with
   | some i=>match x with
    | .agg l=>if i.agg then .out (off+i.size≤l.length) (.agg ((l.drop off).take i.size)) [] else .out (off<l.length) (Dv l off) []
    | _=> .bad
   | none=> .bad
  | none=> .bad
 | _=> .bad
def Db (T:Dj) (h:HF) (t:Option TI) (x i:AV):Rs:=match t,i with
 | some ⟨_,_,_,_, .slice e⟩, .v (.int _ n)=>match T e with
  | some ei=>match x with
   | .rsl r g o m=>match h r with
    | .arr g' sz _=> .out (g' =g∧ei.size=sz∧0≤n∧n<(m:Int)) (.ref r g (o+n.toNat) 0) []
    | _=> .bad
   | .sl f sz es=> .out (ei.size=sz∧0≤n∧n<(es.length:Int)) (.isp f sz es n.toNat 0) []
   | _=> .bad
  | none=> .bad
 | some ⟨_,_,_,_, .arr m e⟩, .v (.int _ n)=>match T e with
  | some ei=>match x with
   | .ref r g k j=>match h r with
    | .arr g' _ _=> .out (g' =g∧0≤n∧n<(m:Int)) (.ref r g k (j+n.toNat*ei.size)) []
    | _=> .bad
   | .isp f sz es k j=> .out (0≤n∧n<(m:Int)) (.isp f sz es k (j+n.toNat*ei.size)) []
   | _=> .bad
  | none=> .bad
 | _,_=> .bad
def eF:UnOp→AV→Rs
 | .not, .v (.bool b)=> .pure (.v (.bool !b))
 | .neg, .v (.int k n)=> .pure (.v (.int k (k.wrap (0-n))))
 | _,_=> .bad
def NO (s d:Option TI):AV→Rs
 | .v (.int _k n)=>match s,d with
  | some _,some ⟨_,_,_,_, .int k'⟩=> .out True (.v (.int k' (k'.wrap n))) []
  | _,_=> .bad
 | _=> .bad
def PE (h:HF) (t:Option TI):AV→Rs
 | .sl _ _ es=>match t with
  | some ⟨_,_,_,_, .slice _⟩=> .pure (.v (.int .i64 es.length))
  | _=> .bad
 | .rsl r g _ n=>match t with
  | some ⟨_,_,_,_, .slice _⟩=>match h r with
   | .arr g' _ _=> .out (g' =g) (.v (.int .i64 n)) []
   | _=> .bad
  | _=> .bad
 | .v (.slice _ n _)=>match t with
  | some ⟨_,_,_,_, .slice _⟩=> .pure (.v (.int .i64 n))
  | _=> .bad
 | .v (.string s)=>match t with
  | some ⟨_,_,_,_, .str⟩=> .pure (.v (.int .i64 s.size))
  | _=> .bad
 | _=> .bad
def Da (h:HF):AV→Rs
 | .ref r g k j=>match h r with
  | .arr g' _ _=> .out (g' =g) (.ref r g k j) []
  | _=> .bad
 | .isp f sz es k j=> .pure (.isp f sz es k j)
 | .clo f l=> .pure (.clo f l)
 | _=> .bad
def U7 (op:BinOp) (k k' :IntKind) (a b:Int):Rs:=match op with
 | .add=> .out (k=k') (.v (.int k (k.wrap (a+b)))) []
 | .sub=> .out (k=k') (.v (.int k (k.wrap (a-b)))) []
 | .mul=> .out (k=k') (.v (.int k (k.wrap (a*b)))) []
 | .quo=> .out (k=k' ∧b≠0) (.v (.int k (k.wrap (a.tdiv b)))) []
 | .rem=> .out (k=k' ∧b≠0) (.v (.int k (a.tmod b))) []
 | .and=> .out (k=k') (.v (.int k (k.wrap ((BitVec.ofInt k.bits a &&& BitVec.ofInt k.bits b).toNat)))) []
 | .or=> .out (k=k') (.v (.int k (k.wrap ((BitVec.ofInt k.bits a ||| BitVec.ofInt k.bits b).toNat)))) []
 | .xor=> .out (k=k') (.v (.int k (k.wrap ((BitVec.ofInt k.bits a ^^^ BitVec.ofInt k.bits b).toNat)))) []
 | .andNot=> .out (k=k') (.v (.int k (k.wrap ((BitVec.ofInt k.bits a &&& ~~~BitVec.ofInt k.bits b).toNat)))) []
 | .shl=> .out (0≤b) (.v (.int k (k.wrap (a*2 ^ min b.toNat k.bits)))) []
 | .shr=> .out (0≤b) (.v (.int k (a.fdiv (2 ^ min b.toNat k.bits)))) []
 | .eql=> .out (k=k') (.v (.bool (a==b))) []
 | .neq=> .out (k=k') (.v (.bool (a != b))) []
 | .lss=> .out (k=k') (.v (.bool (decide (a<b)))) []
 | .leq=> .out (k=k') (.v (.bool (decide (a≤b)))) []
 | .gtr=> .out (k=k') (.v (.bool (decide (a>b)))) []
 | .geq=> .out (k=k') (.v (.bool (decide (a≥b)))) []
def JL (h:HF):AV→Option (Prop×Bool)
 | .v (.slice none _ _)=>some (True,true)
 | .v (.slice (some _) _ _)=>some (True,false)
 | .sl _ _ es=>some (es≠[],false)
 | .rsl r g _ n=>match h r with
  | .arr g' _ _=>some (g' =g∧0<n,false)
  | _=>none
 | _=>none
def iI (T:Dj) (xs ys:List AV):List (Nat×Nat)→Option Bool
 | []=>some true
 | (off,ft)::fs=>match T ft with
  | some ⟨_,_,_,_, .int _⟩=>match Dv xs off,Dv ys off with
   | .v (.int k a), .v (.int k' b)=>if k=k' then (match iI T xs ys fs with
    | some r=>some ((a==b)&&r)
    | none=>none) else none
   | _,_=>none
  | some ⟨_,_,_,_, .bool⟩=>match Dv xs off,Dv ys off with
   | .v (.bool a), .v (.bool b)=>match iI T xs ys fs with
    | some r=>some ((a==b)&&r)
    | none=>none
   | _,_=>none
  | _=>none
def VI (xs ys:List AV):Nat→Nat→Option Bool
 | _,0=>some true
 | k,n+1=>match Dv xs k,Dv ys k with
  | .v (.int q a), .v (.int q' b)=>if q=q' then (match VI xs ys (k+1) n with
   | some r=>some ((a==b)&&r)
   | none=>none) else none
  | _,_=>none
def N2 (T:Dj) (h:HF) (op:BinOp) (t:Option TI):AV→AV→Rs
 | .v (.int k a), .v (.int k' b)=>U7 op k k' a b
 | .v (.bool a), .v (.bool b)=>match t with
  | some ⟨_,_,_,_, .bool⟩=>match op with
   | .eql=> .pure (.v (.bool (a==b)))
   | .neq=> .pure (.v (.bool (a != b)))
   | _=> .bad
  | _=> .bad
 | x, .v (.slice none 0 0)=>match t with
  | some ⟨_,_,_,_, .slice _⟩=>match JL h x with
   | some (p,b)=>match op with
    | .eql=> .out p (.v (.bool b)) []
    | .neq=> .out p (.v (.bool !b)) []
    | _=> .bad
   | none=> .bad
  | _=> .bad
 | .agg xs, .agg ys=>match t with
  | some ⟨_,_,_,_, .st fs⟩=>match iI T xs ys fs with
   | some b=>match op with
    | .eql=> .pure (.v (.bool b))
    | .neq=> .pure (.v (.bool !b))
    | _=> .bad
   | none=> .bad
  | some ⟨_,_,_,_, .arr n e⟩=>match T e with
   | some ⟨_,1,_,_, .int _⟩=>match VI xs ys 0 n with
    | some b=>match op with
     | .eql=> .pure (.v (.bool b))
     | .neq=> .pure (.v (.bool !b))
     | _=> .bad
    | none=> .bad
   | _=> .bad
  | _=> .bad
 | _,_=> .bad
def JS (T:Dj) (t:Option TI) (x i:AV):Rs:=match t,i with
 | some ⟨_,_,_,_, .arr m e⟩, .v (.int _ n)=>match T e with
  | some ei=>match x with
   | .agg l=>if ei.agg then .out (0≤n∧n<(m:Int)∧n.toNat*ei.size+ei.size≤l.length) (.agg ((l.drop (n.toNat*ei.size)).take ei.size)) [] else .out (0≤n∧n<(m:Int)∧ei.size=1∧n.toNat<l.length) (Dv l n.toNat) []
   | _=> .bad
  | none=> .bad
 | _,_=> .bad
def IL (P:Program) (c:Cx) (h:HF) (s:Sem Next) (x:AV) (h' :HF):Prop :=
 ∃y c',(s.run P c.w= .ok (.value y) c'.w∨(s.run P c.w= .ok .skip c'.w∧y=undef))∧Bj c h c' h' ∧BH c' h' ∧AS c' h' x y
theorem IL.val {P:Program} {c:Cx} {h:HF} {s:Sem Next} {x:AV} {y:Value} (hr:s.run P c.w= .ok (.value y) c.w) (hh:BH c h) (hx:AS c h x y):IL P c h s x h :=
 ⟨y,c, .inl hr, .refl _ _,hh,hx⟩
section
variable {P:Program} {T:Dj} {c:Cx} {h:HF}
theorem Cd (hT:CQ P T) {t:Nat} {i:TI} (ht:T t=some i):∃j d z,P.info? t=some j∧P.underlying t=some d∧j.zero=some z∧z.cells.size=i.size∧j.size=i.size∧j.bytes=i.bytes∧z.cells.toList=i.zero∧b9 d=i.agg∧Uy d=i.k:=by
 have:=hT t i ht;unfold bV at this;cases h1:P.info? t with
 | none=>rw [h1] at this;simp at this
 | some j =>
  cases h2:P.underlying t with
  | none=>rw [h1,h2] at this;simp at this
  | some d =>
   rw [h1,h2] at this;simp only at this;cases h3:j.zero with
   | none=>rw [h3] at this;simp at this
   | some z =>
    rw [h3] at this;simp only at this;split at this
    ·rename_i hz;injection this with this
     subst this;exact ⟨j,d,z,rfl,rfl,h3,hz.1,rfl,rfl,rfl,rfl,rfl⟩
    ·cases this
theorem Tn (hT:CQ P T) {t:Nat} {i:TI} (ht:T t=some i) {d:TypeDesc} (hd:P.underlying t=some d):PW P t d=true:=by
 have:=hT t i ht;unfold bV at this;rw [hd] at this;split at this
 ·rename_i h2;injection h2 with h2
  subst h2;split at this
  ·split at this
   ·rename_i h;exact h.2
   ·cases this
  ·cases this
 ·cases this
theorem Ig (hT:CQ P T) {t:Nat} {i:TI} (ht:T t=some i) (w:World):(isAgg t).run P w= .ok i.agg w:=by
 obtain ⟨j,d,z,h1,h2,_,_,_,_,_,h3,_⟩:=Cd hT ht;cases d<;>simp_all [isAgg,run_underlying h2,b9]
theorem Dr (hT:CQ P T) {t:Nat} {i:TI} (ht:T t=some i) (w:World):(sizeOf t).run P w= .ok i.size w:=by
 obtain ⟨j,d,z,h1,h2,_,_,h3,_⟩:=Cd hT ht;simp [sizeOf,typeInfo,h1,h3]
theorem YT (hT:CQ P T) {t:Nat} {i:TI} (ht:T t=some i):∃z:Value,z.cells.toList=i.zero∧z.cells.size=i.size∧∀w,(zeroValue t).run P w= .ok z w:=by
 obtain ⟨j,d,z,h1,h2,h3,h4,_,_,h5,_⟩:=Cd hT ht;exact ⟨z,h5,h4,fun w=>by simp [zeroValue,typeInfo,h1,h3]⟩
theorem Ja (hh:BH c h) {nm:Nat} (hn:h nm= .nil) (sz:Nat) (es:List AV) (cells:Array Value) (ty:Nat) (hl:es.length*sz≤cells.size) (hz:∀(i:Nat) (e:AV),es[i]? =some e→e.cs.length=sz)
  (hc:∀(i:Nat) (e:AV) (j:Nat) (x:AV),es[i]? =some e→e.cs[j]? =some x→∃y,cells[i*sz+j]? =some y∧AS c h x y) :
  let c' :Cx:={ c with w:=c.w.alloc (.cells cells ty),bl:=fun r=>if r=nm then c.w.heap.size else c.bl r,rl:=fun r=>if r=nm then true else c.rl r }
  let h' :HF:=Bc [(nm, .arr 0 sz es)] h
  Bj c h c' h' ∧BH c' h' ∧h' nm= .arr 0 sz es:=by
 intro c' h';have e1:h' nm= .arr 0 sz es:=by simp [h',Bc]
 have e2:∀r,r≠nm→h' r=h r:=fun r hr=>by simp [h',Bc,hr]
 have b1:c'.bl nm=c.w.heap.size:=by simp [c']
 have b2:∀r,r≠nm→c'.bl r=c.bl r:=fun r hr=>by simp [c',hr]
 have r1:c'.rl nm=true:=by simp [c']
 have r2:∀r,r≠nm→c'.rl r=c.rl r:=fun r hr=>by simp [c',hr]
 have g:Aw c.w c'.w:=(Aw.refl _).alloc _;have hne:∀r ob,h r=ob→(match ob with | .nil=>False | _=>True)→r≠nm:=fun r ob h1 h2 h3=>by
  subst h3;rw [hn] at h1;subst h1;exact h2
 have K:Bj c h c' h' :={
  dr:= .inr (Nat.le_refl _)
  os:=g.os
  tape:=g.tape
  output:=g.output
  size:=g.size
  blk:=fun b hb _=>g.blk hb
  dd:=fun r hr=>by rw [e2 r (hne r _ hr trivial)];exact hr
  ar:=fun r g1 s1 es1 hr=>by
   have hq:=hne r _ hr trivial
   exact .inr ⟨g1,es1,by rw [e2 r hq];exact hr,Nat.le_refl _,fun _=>⟨b2 r hq,r2 r hq,fun _ cs t hcs=>⟨cs,g.blk_some hcs,rfl⟩⟩⟩
  fr:=fun r g1 s1 es1 hr hl=>by
   by_cases hq:r=nm
   ·subst hq;exact .inl (by rw [b1];exact Nat.le_refl _)
   ·exact .inr ⟨g1,es1,by rw [←e2 r hq];exact hr,by rw [←r2 r hq];exact hl,b2 r hq⟩
  okT:=rfl
  okF:=rfl
  n0:=rfl }
 refine ⟨K,⟨?_,?_,?_⟩,e1⟩
 ·intro r g1 s1 es1 hr hl;by_cases hq:r=nm
  ·subst hq;rw [e1] at hr;injection hr with _ h2 h3
   subst h2 h3;refine ⟨cells,ty,by rw [b1];exact heap_alloc_new c.w _,‹_›,hz,fun i e j x he hj=> ?_⟩;obtain ⟨y,hy,hv⟩:=hc i e j x he hj;exact ⟨y,hy,hv.ext K.ext⟩
  ·rw [e2 r hq] at hr;rw [r2 r hq] at hl;obtain ⟨cs,t,h1,h2,h3,h4⟩:=hh.ar r g1 s1 es1 hr hl;refine ⟨cs,t,by rw [b2 r hq];exact g.blk_some h1,h2,h3,fun i e j x he hj=> ?_⟩;obtain ⟨y,hy,hv⟩:=h4 i e j x he hj;exact ⟨y,hy,hv.ext K.ext⟩
 ·intro r g1 s1 es1 hr hl;by_cases hq:r=nm
  ·subst hq;rw [r1] at hl;cases hl
  ·rw [e2 r hq] at hr;rw [r2 r hq] at hl;exact hh.em r g1 s1 es1 hr hl
 ·intro r r' g1 g2 s1 s2 es1 es2 hr hr' hl hl' hb;have lt:∀q g3 s3 es3,q≠nm→h' q= .arr g3 s3 es3→c'.rl q=true→c'.bl q<c.w.heap.size:=fun q g3 s3 es3 hq h1 h2=>by
   rw [e2 q hq] at h1;rw [r2 q hq] at h2;obtain ⟨cs,t,h3,_⟩:=hh.ar q g3 s3 es3 h1 h2;rw [b2 q hq];exact lt_of_block h3
  by_cases hq:r=nm<;>by_cases hq' :r' =nm
  ·rw [hq,hq']
  ·have:=lt r' g2 s2 es2 hq' hr' hl';rw [hq,b1] at hb;omega
  ·have:=lt r g1 s1 es1 hq hr hl;rw [hq',b1] at hb;omega
  ·rw [e2 r hq] at hr;rw [e2 r' hq'] at hr';rw [r2 r hq] at hl;rw [r2 r' hq'] at hl';rw [b2 r hq,b2 r' hq'] at hb;exact hh.inj r r' g1 g2 s1 s2 es1 es2 hr hr' hl hl' hb
end
end Go.Proofs.YthblfhgofopcaaaGreat
