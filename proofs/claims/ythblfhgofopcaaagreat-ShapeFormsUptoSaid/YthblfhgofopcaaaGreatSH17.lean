/-
  Parts of the proof: Place, Places, Src, Kind, Far, RPlace, Runs, Shelf, Gp, Tl, Rep, Tiles, Gps, Sum, Enc, Cnt.
-/
import Derived.Test.YthblfhgofopcaaaGreatSH16
import Derived.RangeFuncFrom
import Derived.Test.YthblfhgofopcaaaGreatSH15
import Derived.BigQuiet
import Derived.Deep.QuietTactic
import Derived.Deep.RegionHeld3
import Derived.Deep.RegionLaw
import Derived.Deep.WholeRow
import Derived.Outline
import Derived.Shelf.Small.Bits
import Derived.Shelf.Small.Wraps
import Derived.Shelf.Strconv.Itoa0
import Derived.Shelf.Bits.Mul64
import Derived.Shelf.Slices.Turned
import Derived.Shelf.Slices.Equal
import Derived.Ground.Names2Prog
import Derived.Shelf.Slices.Clone
import Derived.Shelf.Slices.SearchI
import Derived.Shelf.Slices.Empties
import Derived.Shelf.Slices.Empties2
import Derived.Test.YthblfhgofopcaaaGreatProg
import Derived.Laws.CopyOwn
import Derived.Test.YthblfhgofopcaaaGreatSH08
import Derived.Test.YthblfhgofopcaaaGreatSH11
set_option linter.all false
namespace Go.Proofs.YthblfhgofopcaaaGreat
open Go.RowKit Go.Shelf
attribute [local go_sem] Oper.semAt_some
def Bm (s:AL) (k:Int):Int×Int:=match (D7 s).find? (fun x=>x.1==k) with
 | some x=>x.2
 | none=>(-4,0)
def XQ (w:World) (o:Obj) (e:Ending) (w' :World):Prop:=e= .returned (.func (.func 166) #[] #[.pointer (some ⟨w.heap.size,0,none⟩)])∧w.alloc o=w'
theorem U2 (v:Value) (s:AL) (a b:Value) (w:World) (hv:v= .agg #[.int .i64 s.pl,a, .int .i64 s.wi, .int .i64 s.dr, .int .i64 s.fl, .int .i64 s.co, .int .i64 s.me, .int .i64 s.de,b]) :
  Calls Tryz.prog 127 #[v] w (XQ w (.cells #[.int .i64 s.pl,a, .int .i64 s.wi, .int .i64 s.dr, .int .i64 s.fl, .int .i64 s.co, .int .i64 s.me, .int .i64 s.de,b] 24)):=by
 subst hv;go_enter Tryz.func127,Tryz.ntmps127;go_wp2;go_ret;exact ⟨rfl,rfl⟩
structure HU (w:World) (s:AL) (k:Int) (a b:Value) (A:Nat) (pre:List A9) (W:World):Prop where
 no:∀x∈pre,x.1≠k
 bK:Ei W (w.heap.size+1) 3 [.int .i64 k]
 b1:Ei W (w.heap.size+1+1) 3 [.int .i64 0]
 b2:Ei W (w.heap.size+1+1+1) 3 [.int .i64 0]
 bT:Ei W (w.heap.size+1+1+1+1) 24 (HL s a b)
 g:Aw w W
 lt:w.heap.size+5≤A
theorem HU.turns {w:World} {s:AL} {k:Int} {a b:Value} {A C:Nat} {pre:List A9} {W W' :World} (h:HU w s k a b A pre W) (hC:w.heap.size≤C) (t:CV C A W W'):HU w s k a b A pre W' :=by
 have hl:=h.lt;exact ⟨h.no,t.cells h.bK (by omega),t.cells h.b1 (by omega),t.cells h.b2 (by omega),t.cells h.bT (by omega),t.grow h.g (by omega) hC,hl⟩
theorem HU.grow {w:World} {s:AL} {k:Int} {a b:Value} {A:Nat} {pre:List A9} {W W' :World} (h:HU w s k a b A pre W) (g:Aw W W'):HU w s k a b A pre W' :=h.turns (Nat.le_refl w.heap.size) (CV.of_grow g)
structure Nb (w:World) (k:Int) (A:Nat) (pre:List A9) (W:World):Prop where
 hit:∃x,pre.find? (fun x=>x.1==k)=some x∧Ei W (w.heap.size+1+1) 3 [.int .i64 x.2.1]∧Ei W (w.heap.size+1+1+1) 3 [.int .i64 x.2.2]
 g:Aw w W
 lt:w.heap.size+5≤A
theorem Nb.turns {w:World} {k:Int} {A C:Nat} {pre:List A9} {W W' :World} (h:Nb w k A pre W) (hC:w.heap.size≤C) (t:CV C A W W'):Nb w k A pre W' :=by
 have hl:=h.lt;obtain ⟨x,h1,h2,h3⟩:=h.hit;exact ⟨⟨x,h1,t.cells h2 (by omega),t.cells h3 (by omega)⟩,t.grow h.g (by omega) hC,hl⟩
theorem Ei.new_at {w:World} {e:TypeId} {xs:List Value} {k:Nat} (h:w.heap.size=k):Ei (w.alloc (.cells xs.toArray e)) k e xs:=by
 subst h;exact heap_alloc_new w _
theorem VQ {pre:List A9} {x:A9} {k:Int} (h:∀y∈pre,y.1≠k) (hx:x.1=k):(pre++[x]).find? (fun x=>x.1==k)=some x:=by
 rw [List.find?_append,List.find?_eq_none.2 fun y hy=>by simpa using h y hy];simp [hx]
theorem S4 {s:AL} {k:Int} (h:∀y∈D7 s,y.1≠k):Bm s k=(-4,0):=by
 unfold Bm;rw [List.find?_eq_none.2 fun y hy=>by simpa using h y hy]
theorem SH {s:AL} {k:Int} {pre:List A9} {x:A9} (hp:pre <+: D7 s) (h:pre.find? (fun x=>x.1==k)=some x):Bm s k=x.2:=by
 obtain ⟨t,ht⟩:=hp;unfold Bm;rw [←ht,List.find?_append,h];rfl
theorem Ol {w W:World} {D:Nat} {x y:Int} (h1:Ei W (w.heap.size+1+1) 3 [.int .i64 x]) (h2:Ei W (w.heap.size+1+1+1) 3 [.int .i64 y]) (g:Aw w W) (hD:W.heap[D]? =some (.deferred (some []))) (hl:w.heap.size+5≤D) :
  (W.putObj D (.deferred none)).cell? ⟨w.heap.size+1+1,0,none⟩=some (.int .i64 x)∧(W.putObj D (.deferred none)).cell? ⟨w.heap.size+1+1+1,0,none⟩=some (.int .i64 y)∧Aw w (W.putObj D (.deferred none)):=by
 have t:CV w.heap.size D W (W.putObj D (.deferred none)):=CV.putObj _ hD rfl (by omega);have k1:Ei (W.putObj D (.deferred none)) (w.heap.size+1+1) 3 [.int .i64 x]:=t.cells h1 (by omega);have k2:Ei (W.putObj D (.deferred none)) (w.heap.size+1+1+1) 3 [.int .i64 y]:=t.cells h2 (by omega);exact ⟨k1.cell 0,k2.cell 0,t.grow g (by omega) (Nat.le_refl _)⟩
set_option maxRecDepth 100000 in
set_option maxHeartbeats 4000000 in
theorem VZ (v:Value) (s:AL) (k:Int) (w:World) (h:F5 w v s):Calls Tryz.prog 126 #[v, .int .i64 k] w (OF w (.tuple #[.int .i64 (Bm s k).1, .int .i64 (Bm s k).2])):=by
 have hset:=h;obtain ⟨A,c,B,d,rfl,h1,h2⟩:=h.open_;have KI:=BP (fun W=>(callsIn_wide.2 (U2 _ s (.slice A s.su.length c) (.slice B s.re.length d) W rfl):CallsIn Fence.wide 9 _ _ _ _ _));have H1:=BP (And.intro h1 h2);clear h1 h2 hset h;refine (callsIn_wide (n:=10)).1 ?_;refine callsIn_of_wp_marks Tryz.func126 rfl trivial ?_ rfl;simp only [Tryz.ntmps126,List.size_toArray,List.length_cons,List.length_nil,Nat.reduceAdd,Nat.reduceSub,Array.replicate_succ,Array.replicate_zero,List.push_toArray,List.append_toArray,List.nil_append,List.cons_append];gi_wp2_with (refine ⟨trivial,?_⟩;gi_at_call 127;refine (KI.out _).mono ?_;rintro e w' ⟨rfl,rfl⟩);have GW:=BP (show Aw w (((((w.alloc (.cells #[.int .i64 s.pl, .slice A s.su.length c, .int .i64 s.wi, .int .i64 s.dr, .int .i64 s.fl, .int .i64 s.co, .int .i64 s.me, .int .i64 s.de, .slice B s.re.length d] 24)).alloc (.cells #[.int .i64 k] 3)).alloc (.cells #[.int .i64 0] 3)).alloc (.cells #[.int .i64 0] 3)).alloc (.cells #[.int .i64 s.pl, .slice A s.su.length c, .int .i64 s.wi, .int .i64 s.dr, .int .i64 s.fl, .int .i64 s.co, .int .i64 s.me, .int .i64 s.de, .slice B s.re.length d] 24)) from (((((Aw.refl w).alloc _).alloc _).alloc _).alloc _).alloc _);have bK:Ei (((((w.alloc (.cells #[.int .i64 s.pl, .slice A s.su.length c, .int .i64 s.wi, .int .i64 s.dr, .int .i64 s.fl, .int .i64 s.co, .int .i64 s.me, .int .i64 s.de, .slice B s.re.length d] 24)).alloc (.cells #[.int .i64 k] 3)).alloc (.cells #[.int .i64 0] 3)).alloc (.cells #[.int .i64 0] 3)).alloc (.cells #[.int .i64 s.pl, .slice A s.su.length c, .int .i64 s.wi, .int .i64 s.dr, .int .i64 s.fl, .int .i64 s.co, .int .i64 s.me, .int .i64 s.de, .slice B s.re.length d] 24)) (w.heap.size+1) 3 [.int .i64 k]:=Ei.grow (Ei.new_at (xs:=[.int .i64 k]) (by simp)) ((((Aw.refl _).alloc _).alloc _).alloc _);have b1:Ei (((((w.alloc (.cells #[.int .i64 s.pl, .slice A s.su.length c, .int .i64 s.wi, .int .i64 s.dr, .int .i64 s.fl, .int .i64 s.co, .int .i64 s.me, .int .i64 s.de, .slice B s.re.length d] 24)).alloc (.cells #[.int .i64 k] 3)).alloc (.cells #[.int .i64 0] 3)).alloc (.cells #[.int .i64 0] 3)).alloc (.cells #[.int .i64 s.pl, .slice A s.su.length c, .int .i64 s.wi, .int .i64 s.dr, .int .i64 s.fl, .int .i64 s.co, .int .i64 s.me, .int .i64 s.de, .slice B s.re.length d] 24)) (w.heap.size+1+1) 3 [.int .i64 0]:=Ei.grow (Ei.new_at (xs:=[.int .i64 0]) (by simp)) (((Aw.refl _).alloc _).alloc _);have b2:Ei (((((w.alloc (.cells #[.int .i64 s.pl, .slice A s.su.length c, .int .i64 s.wi, .int .i64 s.dr, .int .i64 s.fl, .int .i64 s.co, .int .i64 s.me, .int .i64 s.de, .slice B s.re.length d] 24)).alloc (.cells #[.int .i64 k] 3)).alloc (.cells #[.int .i64 0] 3)).alloc (.cells #[.int .i64 0] 3)).alloc (.cells #[.int .i64 s.pl, .slice A s.su.length c, .int .i64 s.wi, .int .i64 s.dr, .int .i64 s.fl, .int .i64 s.co, .int .i64 s.me, .int .i64 s.de, .slice B s.re.length d] 24)) (w.heap.size+1+1+1) 3 [.int .i64 0]:=Ei.grow (Ei.new_at (xs:=[.int .i64 0]) (by simp)) ((Aw.refl _).alloc _);have bT:Ei (((((w.alloc (.cells #[.int .i64 s.pl, .slice A s.su.length c, .int .i64 s.wi, .int .i64 s.dr, .int .i64 s.fl, .int .i64 s.co, .int .i64 s.me, .int .i64 s.de, .slice B s.re.length d] 24)).alloc (.cells #[.int .i64 k] 3)).alloc (.cells #[.int .i64 0] 3)).alloc (.cells #[.int .i64 0] 3)).alloc (.cells #[.int .i64 s.pl, .slice A s.su.length c, .int .i64 s.wi, .int .i64 s.dr, .int .i64 s.fl, .int .i64 s.co, .int .i64 s.me, .int .i64 s.de, .slice B s.re.length d] 24)) (w.heap.size+1+1+1+1) 24 (HL s (.slice A s.su.length c) (.slice B s.re.length d)):=Ei.new_at (by simp);have hsz:(((((w.alloc (.cells #[.int .i64 s.pl, .slice A s.su.length c, .int .i64 s.wi, .int .i64 s.dr, .int .i64 s.fl, .int .i64 s.co, .int .i64 s.me, .int .i64 s.de, .slice B s.re.length d] 24)).alloc (.cells #[.int .i64 k] 3)).alloc (.cells #[.int .i64 0] 3)).alloc (.cells #[.int .i64 0] 3)).alloc (.cells #[.int .i64 s.pl, .slice A s.su.length c, .int .i64 s.wi, .int .i64 s.dr, .int .i64 s.fl, .int .i64 s.co, .int .i64 s.me, .int .i64 s.de, .slice B s.re.length d] 24)).heap.size=w.heap.size+5:=by simp
 have BB:=BP (And.intro bK (And.intro b1 (And.intro b2 bT)));clear bK b1 b2 bT;generalize (((((w.alloc (.cells #[.int .i64 s.pl, .slice A s.su.length c, .int .i64 s.wi, .int .i64 s.dr, .int .i64 s.fl, .int .i64 s.co, .int .i64 s.me, .int .i64 s.de, .slice B s.re.length d] 24)).alloc (.cells #[.int .i64 k] 3)).alloc (.cells #[.int .i64 0] 3)).alloc (.cells #[.int .i64 0] 3)).alloc (.cells #[.int .i64 s.pl, .slice A s.su.length c, .int .i64 s.wi, .int .i64 s.dr, .int .i64 s.fl, .int .i64 s.co, .int .i64 s.me, .int .i64 s.de, .slice B s.re.length d] 24))=W0 at *;refine VE (S:=D7 s) (encs:=YE) (Ok:=Mh (w.heap.size+1+1+1+1) s (.slice A s.su.length c) (.slice B s.re.length d)) (gf:=166) (lb:= #[.pointer (some ⟨w.heap.size+1+1+1+1,0,none⟩)]) rfl (enters_of Tryz.func166 (by kernel_rfl) rfl) (NS _ s _ _) (fun _=>rfl)
  (fun W hg=>⟨BB.out.2.2.2.grow hg,H1.out.1.grow (GW.out.trans hg),H1.out.2.grow (GW.out.trans hg)⟩)
  (HU w s k (.slice A s.su.length c) (.slice B s.re.length d)) (Nb w k) (fun A' pre W W' h t=>h.turns (by omega) t) (fun A' pre W W' h t=>h.turns (by omega) t) (fun A' pre W h=>⟨h.bT,H1.out.1.grow h.g,H1.out.2.grow h.g⟩)
  (fun A' W hg hA _=>⟨by simp,BB.out.1.grow hg,BB.out.2.1.grow hg,BB.out.2.2.1.grow hg,BB.out.2.2.2.grow hg,GW.out.trans hg,by omega⟩)
  (fun A' pre x a' W=>HU w s k (.slice A s.su.length c) (.slice B s.re.length d) A' pre W∧∃P,A' <P∧Ei W P 136 [.int .i64 x.2.1, .int .i64 x.2.2]∧a' ={ tmps:= #[.agg #[.int .i64 s.pl, .slice A s.su.length c, .int .i64 s.wi, .int .i64 s.dr, .int .i64 s.fl, .int .i64 s.co, .int .i64 s.me, .int .i64 s.de, .slice B s.re.length d], .int .i64 k, .pointer (some ⟨w.heap.size,0,none⟩), .pointer (some ⟨w.heap.size+1,0,none⟩), .pointer (some ⟨w.heap.size+1+1,0,none⟩), .pointer (some ⟨w.heap.size+1+1+1,0,none⟩), .int .i64 x.1, .pointer (some ⟨P,0,none⟩), .agg #[.int .i64 s.pl, .slice A s.su.length c, .int .i64 s.wi, .int .i64 s.dr, .int .i64 s.fl, .int .i64 s.co, .int .i64 s.me, .int .i64 s.de, .slice B s.re.length d], .func (.func 166) #[] #[.pointer (some ⟨w.heap.size+1+1+1+1,0,none⟩)], .int .i64 x.1, .agg #[.int .i64 x.2.1, .int .i64 x.2.2],undef,undef,undef,undef,undef,undef,undef],defers:=[] })
  (fun A' pre x a' W W' h t=>⟨h.1.turns (by omega) t,h.2.imp fun P hP=>⟨hP.1,t.cells hP.2.1 (by omega),hP.2.2⟩⟩) ?assign ?body ?done ?stop
 case assign =>
  intro l m A' pre x W K hA hAW hi hpre hK;simp only [YE];gi_wp2;refine hK _ _ (KeepsOthers.alloc _ _) (fun k h1 h2=>Below.heap_alloc _ _ _ (by omega)) ⟨hi.grow ((Aw.refl _).alloc _),_,hAW,heap_alloc_new W _,?_⟩;rfl
 case body =>
  rintro l m A' pre x a' W hA hAW ⟨hi,P,hP,bP,rfl⟩ hpre;have cK:=hi.bK.cell 0;have p0:=bP.cell 0;have p1:=bP.cell 1;have r0:=hi.b1.cell 0;have r1:=hi.b2.cell 0;have f0:=hi.b1.free 0;have f1:=hi.b2.free 0;simp only [List.getElem?_cons_zero,List.getElem?_cons_succ] at cK p0 p1 r0 r1;have hlt:=hi.lt;have HI:=BP hi;have hmix:Tryz.prog.follows .mixedOrders=true:=by kernel_rfl
  by_cases he:x.1=k
  ·have he' :(x.1==k)=true:=by simp [he]
   have HE:=BP he;have FIN:=BP (show KeepsOthers W ((W.setCell ⟨w.heap.size+1+1,0,none⟩ (.int .i64 x.2.1)).setCell ⟨w.heap.size+1+1+1,0,none⟩ (.int .i64 x.2.2)).drew∧Nb w k A' (pre++[x]) ((W.setCell ⟨w.heap.size+1+1,0,none⟩ (.int .i64 x.2.1)).setCell ⟨w.heap.size+1+1+1,0,none⟩ (.int .i64 x.2.2)).drew from
    ⟨((KeepsOthers.setCell _ _ _).trans (KeepsOthers.setCell _ _ _)).trans (KeepsOthers.drew _),⟨x,VQ hi.no he,((hi.b1.set 0 (.int .i64 x.2.1)).far (p:=⟨w.heap.size+1+1+1,0,none⟩) (by simp) (.int .i64 x.2.2)).grow (Aw.refl _).drew,((hi.b2.far (p:=⟨w.heap.size+1+1,0,none⟩) (by simp) (.int .i64 x.2.1)).set 0 (.int .i64 x.2.2)).grow (Aw.refl _).drew⟩,((hi.g.set (p:=⟨w.heap.size+1+1,0,none⟩) (by simp;omega) (.int .i64 x.2.1)).set (p:=⟨w.heap.size+1+1+1,0,none⟩) (by simp;omega) (.int .i64 x.2.2)).drew,hlt⟩)
   clear he hi;gi_wp2;gi_region_with_o (fail);all_goals
    gi_wp2;exact FIN.out
  ·have he' :(x.1==k)=false:=by simpa using he
   have NEW:=BP (show HU w s k (.slice A s.su.length c) (.slice B s.re.length d) A' (pre++[x]) W from ⟨fun y hy=>by
    rcases List.mem_append.1 hy with h | h
    ·exact hi.no y h
    ·simp at h;subst h;exact he,hi.bK,hi.b1,hi.b2,hi.bT,hi.g,hi.lt⟩)
   clear he hi;gi_wp2;exact ⟨KeepsOthers.refl _,fun _ _ _=>rfl,NEW.out⟩
 case done =>
  intro D A' W hD hA hi hDh;have r0:=hi.b1.cell 0;have r1:=hi.b2.cell 0;have f0:=hi.b1.free 0;have f1:=hi.b2.free 0;simp only [List.getElem?_cons_zero] at r0 r1;have hlt:=hi.lt;have HE:=BP (S4 hi.no);have B1:=(hi.b1.set 0 (.int .i64 (-4))).far (p:=⟨w.heap.size+1+1+1,0,none⟩) (by simp) (.int .i64 0);have B2:=(hi.b2.far (p:=⟨w.heap.size+1+1,0,none⟩) (by simp) (.int .i64 (-4))).set 0 (.int .i64 0);have G2:=(hi.g.set (p:=⟨w.heap.size+1+1,0,none⟩) (by simp;omega) (.int .i64 (-4))).set (p:=⟨w.heap.size+1+1+1,0,none⟩) (by simp;omega) (.int .i64 0);have hD2:=((KeepsOthers.setCell W ⟨w.heap.size+1+1,0,none⟩ (.int .i64 (-4))).trans (KeepsOthers.setCell _ ⟨w.heap.size+1+1+1,0,none⟩ (.int .i64 0))).same D _ hDh rfl;have FIN:=BP (Ol (D:=D) B1 B2 G2 hD2 (by omega));have HD2:=BP hD2;clear B1 B2 G2 hD2;gi_wp2;refine ⟨by simp, .inl ⟨_,_,rfl,run_takeDeferred HD2.out,?_⟩⟩;obtain ⟨q0,q1,G3⟩:=FIN.out;refine ⟨.tuple #[.int .i64 (-4), .int .i64 0],?_,by rw [HE.out],G3⟩;simp [results,Tryz.results126,go_sem,q0,q1]
 case stop =>
  intro D A' pre W hD hA hpre hx hDh;obtain ⟨x,h1,h2,h3⟩:=hx.hit;have HE:=BP (SH hpre h1);have FIN:=BP (Ol (D:=D) h2 h3 hx.g hDh (by omega));have HD2:=BP hDh;clear h1 h2 h3 hx hDh;gi_wp2;refine ⟨by simp, .inl ⟨_,_,rfl,run_takeDeferred HD2.out,?_⟩⟩;obtain ⟨q0,q1,G3⟩:=FIN.out;refine ⟨.tuple #[.int .i64 x.2.1, .int .i64 x.2.2],?_,by rw [HE.out],G3⟩;simp [results,Tryz.results126,go_sem,q0,q1]
end Go.Proofs.YthblfhgofopcaaaGreat

namespace Go.Proofs.YthblfhgofopcaaaGreat
def B8 (a:Int) (l:List A9):Prop:=∀(i:Nat) (h:i<l.length),l[i].1=a+i
theorem B8.nil {a:Int}:B8 a []:=fun i h=>by simp at h
theorem B8.append {a:Int} {l m:List A9} (h:B8 a l) (k:B8 (a+l.length) m):B8 a (l++m):=fun i hi=>by
 rcases Nat.lt_or_ge i l.length with h1 | h1
 ·rw [List.getElem_append_left h1];exact h i h1
 ·rw [List.length_append] at hi;rw [List.getElem_append_right h1,k (i-l.length) (by omega)];omega
theorem B8.congr {a b:Int} {l:List A9} (h:B8 a l) (e:a=b):B8 b l:=e ▸ h
theorem Fc (a su:Int) (n:Nat):B8 a (DW a su n):=by
 induction n with
 | zero=>exact B8.nil
 | succ n ih =>
  rw [DW];refine ih.append fun i h=> ?_
  simp only [List.length_singleton] at h;obtain rfl:i=0:=by omega
  rw [EL];simp
theorem FF {a su:Int} {n:Nat} {x:A9}:x∈DW a su n↔∃i:Nat,i<n∧x=(a+i,su,(i:Int)):=by
 induction n with
 | zero=>simp [DW]
 | succ n ih =>
  rw [DW,List.mem_append,ih,List.mem_singleton];constructor
  ·rintro (⟨i,h,e⟩ | e)
   ·exact ⟨i,by omega,e⟩
   ·exact ⟨n,by omega,e⟩
  ·rintro ⟨i,h,e⟩;by_cases hi:i=n
   ·subst hi;exact .inr e
   ·exact .inl ⟨i,by omega,e⟩
theorem MT {l:List Int} {k:Nat} {x:A9}:x∈Cf l k↔∃j:Nat,j<k∧x∈DW (Aj (l.take j)) (j:Int) (l.getD j 0).toNat:=by
 induction k with
 | zero=>simp [Cf]
 | succ k ih =>
  rw [Cf,List.mem_append,ih];constructor
  ·rintro (⟨i,h,e⟩ | e)
   ·exact ⟨i,by omega,e⟩
   ·exact ⟨k,by omega,e⟩
  ·rintro ⟨i,h,e⟩;by_cases hi:i=k
   ·subst hi;exact .inr e
   ·exact .inl ⟨i,by omega,e⟩
theorem GY {l:List Int} (h:∀z∈l,0≤z):∀k,k≤l.length→((Cf l k).length:Int)=Aj (l.take k):=by
 intro k;induction k with
 | zero=>intro _;rfl
 | succ k ih =>
  intro hk;have hz:=h l[k] (List.getElem_mem (by omega));rw [Cf,List.length_append,EL,Int.natCast_add,ih (by omega),Fi l (by omega),show l.getD k 0=l[k] by simp [List.getD,show k<l.length by omega]];omega
theorem Nd {l:List Int} (h:∀z∈l,0≤z):∀k,k≤l.length→B8 0 (Cf l k):=by
 intro k;induction k with
 | zero=>intro _;exact B8.nil
 | succ k ih =>
  intro hk;rw [Cf];exact (ih (by omega)).append ((Fc _ _ _).congr (by rw [GY h k (by omega)];omega))
theorem G1 (s:AL):Ao s 3=Cf s.su s.su.length++DW (Aj s.su) (-1) s.wi.toNat++DW (Aj s.su+s.wi) (-2) s.dr.toNat++DW (Aj s.su+s.wi+s.dr) (-3) s.fl.toNat:=rfl
section
variable {s:AL} (V:Ov s)
include V
theorem Ov.su0:∀z∈s.su,0≤z:=fun z hz=>by have:=V.su z hz;omega
theorem Ov.sum:0≤Aj s.su∧Aj s.su≤27:=by
 have h:=Ek V.su;have:=V.su3;omega
theorem N6:(((Ao s 3).length:Nat):Int)=AQ s+s.fl:=by
 have h:=GY V.su0 s.su.length (Nat.le_refl _);rw [List.take_length] at h;have v1:=V.wi;have v2:=V.dr;have v3:=V.fl;rw [G1];unfold AQ;simp only [List.length_append,EL,Int.natCast_add,h];omega
theorem My:B8 0 (Ao s 3):=by
 have h:=GY V.su0 s.su.length (Nat.le_refl _);rw [List.take_length] at h;have v1:=V.wi;have v2:=V.dr;have v3:=V.fl;have i0:=Nd V.su0 s.su.length (Nat.le_refl _);rw [G1];refine ((i0.append ((Fc _ _ _).congr ?_)).append ((Fc _ _ _).congr ?_)).append ((Fc _ _ _).congr ?_)
 ·omega
 ·rw [List.length_append,EL];omega
 ·rw [List.length_append,List.length_append,EL,EL];omega
end
theorem B8.find {l:List A9} (h:B8 0 l) {x:A9} (hx:x∈l):l.find? (fun y=>y.1==x.1)=some x:=by
 obtain ⟨i,hi,rfl⟩:=List.getElem_of_mem hx;refine List.find?_eq_some_iff_getElem.2 ⟨by simp,i,hi,rfl,fun j hj=> ?_⟩;have h1:=h i hi;have h2:=h j (by omega);simp;omega
theorem B8.out {l:List A9} (h:B8 0 l) {k:Int} (hk:k<0∨(l.length:Int)≤k):l.find? (fun y=>y.1==k)=none:=by
 refine List.find?_eq_none.2 fun y hy=> ?_
 obtain ⟨i,hi,rfl⟩:=List.getElem_of_mem hy;have h1:=h i hi;simp;omega
theorem G9 (s:AL):B8 0 (D7 s):=by
 by_cases e:AP s=0
 ·rw [GN e];exact My (AU e)
 ·rw [Ji e];exact B8.nil
theorem LX (s:AL):((D7 s).length:Int)=if AP s=0 then AQ s+s.fl else 0:=by
 by_cases e:AP s=0
 ·rw [GN e,if_pos e];exact N6 (AU e)
 ·rw [Ji e,if_neg e];rfl
theorem Kr {s:AL} {x:A9} (h:x∈D7 s):Bm s x.1=x.2:=by
 unfold Bm;rw [(G9 s).find h]
theorem O5 {s:AL} {k:Int} (hk:k<0∨((D7 s).length:Int)≤k):Bm s k=(-4,0):=by
 unfold Bm;rw [(G9 s).out hk]
theorem OB {s:AL} (k:Int) (h:AP s≠0):Bm s k=(-4,0):=by
 unfold Bm;rw [Ji h];rfl
theorem WU {s:AL} {k:Int} (h0:0≤k) (h1:k<((D7 s).length:Int)):(k,Bm s k)∈D7 s:=by
 have hi:k.toNat<(D7 s).length:=by omega
 have h:=G9 s k.toNat hi;have hm:=List.getElem_mem hi;have hp:=Kr hm;rw [show (0:Int)+(k.toNat:Int)=k by omega] at h;rw [h] at hp;have e2:(k,Bm s k)=(D7 s)[k.toNat]:=Prod.ext h.symm hp;rw [e2];exact hm
def Pf (s:AL) (k:Int) (j:Nat) (r:Nat):Prop:=∃h:j<s.su.length,(r:Int)<s.su[j]∧k=Aj (s.su.take j)+r
theorem Ra {s:AL} {x:A9} (e:AP s=0) (h:x∈D7 s) :
  (∃j r:Nat,Pf s x.1 j r∧x.2=((j:Int),(r:Int)))∨(∃r:Nat,(r:Int)<s.wi∧x.1=Aj s.su+r∧x.2=(-1,(r:Int)))∨(∃r:Nat,(r:Int)<s.dr∧x.1=Aj s.su+s.wi+r∧x.2=(-2,(r:Int)))∨(∃r:Nat,(r:Int)<s.fl∧x.1=Aj s.su+s.wi+s.dr+r∧x.2=(-3,(r:Int))):=by
 have V:=AU e;rw [GN e,G1] at h;rw [List.mem_append,List.mem_append,List.mem_append,MT,FF,FF,FF] at h;rcases h with ((⟨j,hj,h⟩ | ⟨i,hi,rfl⟩) | ⟨i,hi,rfl⟩) | ⟨i,hi,rfl⟩
 ·obtain ⟨i,hi,rfl⟩:=FF.1 h;rw [show s.su.getD j 0=s.su[j] by simp [List.getD,hj]] at hi;exact .inl ⟨j,i,⟨hj,by omega,rfl⟩,rfl⟩
 ·exact .inr (.inl ⟨i,by omega,rfl,rfl⟩)
 ·exact .inr (.inr (.inl ⟨i,by omega,rfl,rfl⟩))
 ·exact .inr (.inr (.inr ⟨i,by omega,rfl,rfl⟩))
theorem RZ {s:AL} {k:Int} {j r:Nat} (e:AP s=0) (h:Pf s k j r):((k,(j:Int),(r:Int)):A9)∈D7 s:=by
 obtain ⟨hj,hr,rfl⟩:=h;rw [GN e,G1];refine List.mem_append_left _ (List.mem_append_left _ (List.mem_append_left _ (MT.2 ⟨j,hj,FF.2 ⟨r,?_,rfl⟩⟩)));rw [show s.su.getD j 0=s.su[j] by simp [List.getD,hj]];omega
theorem Xo {s:AL} {r:Nat} (e:AP s=0) (h:(r:Int)<s.wi):((Aj s.su+r,-1,(r:Int)):A9)∈D7 s:=by
 rw [GN e,G1];exact List.mem_append_left _ (List.mem_append_left _ (List.mem_append_right _ (FF.2 ⟨r,by omega,rfl⟩)))
theorem S7 {s:AL} {r:Nat} (e:AP s=0) (h:(r:Int)<s.dr):((Aj s.su+s.wi+r,-2,(r:Int)):A9)∈D7 s:=by
 rw [GN e,G1];exact List.mem_append_left _ (List.mem_append_right _ (FF.2 ⟨r,by omega,rfl⟩))
theorem TR {s:AL} {r:Nat} (e:AP s=0) (h:(r:Int)<s.fl):((Aj s.su+s.wi+s.dr+r,-3,(r:Int)):A9)∈D7 s:=by
 rw [GN e,G1];exact List.mem_append_right _ (FF.2 ⟨r,by omega,rfl⟩)
end Go.Proofs.YthblfhgofopcaaaGreat

namespace Go.Proofs.YthblfhgofopcaaaGreat
open Go.RowKit
def Src (w:World) (g:Nat):Prop:=∃x:Int,0≤x∧x<18446744073709551616∧Ei w g 115 [.int .u64 x]
theorem Own.far {w0 w:World} {v:Value} {zs:List Int} (h:Own w0 w v zs) {p:Addr} (hp:p.block<w0.heap.size) (u:Value):Own w0 (w.setCell p u) v zs:=ownsRow_setCell_below h hp u
theorem Qz {many p k:Int} {l:List Int} (h:Bl many p (k::l)=0):(0≤k∧k<many)∧p<k∧Bl many k l=0:=by
 unfold Bl at h;by_cases h1:k<0∨many≤k
 ·rw [if_pos h1] at h;omega
 rw [if_neg h1] at h;by_cases h2:k≤p
 ·rw [if_pos h2] at h;omega
 rw [if_neg h2] at h;exact ⟨by omega,by omega,h⟩
theorem Own.blk {w0 w:World} {v:Value} {l:List Int} (h:Own w0 w v l) {k:Nat} (hk:v.ownBlock=some k):w0.heap.size≤k∧k<w.heap.size∧∃cur,w.heap[k]? =some (.cells cur 3 (0,0)):=by
 rcases h.2 with ⟨e,_⟩ | ⟨g,cap,cur,e,hb,hh,r⟩
 ·rw [e] at hk;cases hk
 ·rw [e] at hk;have:k=g:=by simpa [Value.ownBlock] using hk.symm
  subst this;exact ⟨hb,lt_of_block hh,cur,hh⟩
def XJ (s:AL) (su:Int):Int:=if su= -1 then s.wi else if su= -2 then s.dr else if su= -3 then s.fl else s.su.getD su.toNat 0
theorem KX {s:AL} {j:Nat} (h:j<s.su.length):XJ s (j:Int)=s.su[j]:=by
 unfold XJ;rw [if_neg (by omega),if_neg (by omega),if_neg (by omega)];simp [List.getD,h]
def AT (s:AL) (k:Int):Bool:=decide (0≤(Bm s k).1)&&decide ((Bm s k).2+2<XJ s (Bm s k).1)
inductive ZN (s:AL) (k:Int):Prop
 | none (h:Bm s k=(-4,0))
 | suit (e:AP s=0) (j r:Nat) (h:Bm s k=((j:Int),(r:Int))) (hj:j<s.su.length) (hr:(r:Int)<s.su[j]) (hk:k=Aj (s.su.take j)+r)
 | other (e:AP s=0) (su:Int) (r:Nat) (h:Bm s k=(su,(r:Int))) (hs:su= -1∨su= -2∨su= -3) (hr:(r:Int)<XJ s su) (hl:XJ s su≤8) (hk:0≤k∧k≤50)
theorem Gj (s:AL) (k:Int):ZN s k:=by
 by_cases e:AP s=0
 ·have V:=AU e;by_cases hk:k<0∨((D7 s).length:Int)≤k
  ·exact .none (O5 hk)
  ·have hm:=WU (s:=s) (k:=k) (by omega) (by omega);have hl:=LX s;rw [if_pos e] at hl;have v1:=V.wi;have v2:=V.dr;have v3:=V.fl;have v4:=V.plain;rcases Ra e hm with ⟨j,r,⟨hj,hr,hk'⟩,h2⟩ | ⟨r,hr,_,h2⟩ | ⟨r,hr,_,h2⟩ | ⟨r,hr,_,h2⟩
   ·exact .suit e j r h2 hj hr hk'
   ·exact .other e (-1) r h2 (.inl rfl) hr (by show s.wi≤8;omega) (by omega)
   ·exact .other e (-2) r h2 (.inr (.inl rfl)) hr (by show s.dr≤8;omega) (by omega)
   ·exact .other e (-3) r h2 (.inr (.inr rfl)) hr (by show s.fl≤8;omega) (by omega)
 ·exact .none (OB k e)
end Go.Proofs.YthblfhgofopcaaaGreat

namespace Go.Proofs
open Go.Shelf
def Tryz.lays212_ren:Go.Shelf.Ren:=⟨fun | 212=>154 | 263=>175 | 264=>176 | n=>n,fun | 46=>116 | 51=>176 | 146=>177 | 53=>113 | 148=>179 | n=>n,fun | n=>n⟩
theorem Tryz.lays212:Go.Proofs.Lays.n212 Tryz.prog Tryz.lays212_ren:={
 mixed:=by kernel_rfl
 f212:=Tryz.func154.trans (congrArg some (by kernel_rfl))
 f263:=Tryz.func175.trans (congrArg some (by kernel_rfl))
 f264:=Tryz.func176.trans (congrArg some (by kernel_rfl))
 t46:=Tryz.underlying116
 a46:=Tryz.isAgg116
 z46:=Tryz.sizeOf116
 v46:=Tryz.zeroValue116
 t51:=Tryz.underlying176
 a51:=Tryz.isAgg176
 z51:=Tryz.sizeOf176
 v51:=Tryz.zeroValue176
 t53:=Tryz.underlying113
 a53:=Tryz.isAgg113
 z53:=Tryz.sizeOf113
 v53:=Tryz.zeroValue113
 t146:=Tryz.underlying177
 a146:=Tryz.isAgg177
 z146:=Tryz.sizeOf177
 v146:=Tryz.zeroValue177
 t148:=Tryz.underlying179
 a148:=Tryz.isAgg179
 z148:=Tryz.sizeOf179
 v148:=Tryz.zeroValue179 }
open Go.RowKit Go.Lib in
theorem Tryz.bits_Mul (x y:Nat) (hx:x<18446744073709551616) (hy:y<18446744073709551616) (w:World) :
  Calls Tryz.prog 154 #[.int .u64 x, .int .u64 y] w fun e w' =>e= .returned (.tuple #[.int .u64 ((x*y / 18446744073709551616:Nat):Int), .int .u64 ((x*y % 18446744073709551616:Nat):Int)])∧w' =w:=Any.bits_Mul Tryz.lays212 x y hx hy w
def Tryz.laysNm225_ren:Go.Shelf.Ren:=⟨fun | 25=>171 | 31=>186 | 32=>187 | 37=>199 | n=>n,fun | 22=>22 | 3=>3 | 4=>4 | 40=>116 | 0=>0 | n=>n,fun | n=>n⟩
theorem Tryz.laysNm225:Go.Proofs.Lays2.n25 Tryz.prog Tryz.laysNm225_ren:={
 mixed:=by kernel_rfl
 f25:=Tryz.func171.trans (congrArg some (by kernel_rfl))
 f31:=Tryz.func186.trans (congrArg some (by kernel_rfl))
 f32:=Tryz.func187.trans (congrArg some (by kernel_rfl))
 f37:=Tryz.func199.trans (congrArg some (by kernel_rfl))
 t0:=Tryz.underlying0
 a0:=Tryz.isAgg0
 z0:=Tryz.sizeOf0
 v0:=Tryz.zeroValue0
 t3:=Tryz.underlying3
 a3:=Tryz.isAgg3
 z3:=Tryz.sizeOf3
 v3:=Tryz.zeroValue3
 t4:=Tryz.underlying4
 a4:=Tryz.isAgg4
 z4:=Tryz.sizeOf4
 v4:=Tryz.zeroValue4
 t22:=Tryz.underlying22
 a22:=Tryz.isAgg22
 z22:=Tryz.sizeOf22
 v22:=Tryz.zeroValue22
 t40:=Tryz.underlying116
 a40:=Tryz.isAgg116
 z40:=Tryz.sizeOf116
 v40:=Tryz.zeroValue116 }
open Go.RowKit Go.Lib in
theorem Tryz.slices_BinarySearch_int (b off n c:Nat) (zs:List Int) (x:Int) (w:World) (hz:n≤zs.length) (hbig:n<4611686018427387904) (hc:∀j,j<zs.length→w.cell? ⟨b,off+j,none⟩=some (.int .i64 (zs.getD j 0))) (hs:(zs.take n).Pairwise (· ≤·)) :
  Calls Tryz.prog 171 #[.slice (some ⟨b,off,none⟩) n c, .int .i64 x] w fun e w' =>e= .returned (.tuple #[.int .i64 ((zs.take n).countP (· <x):Nat), .bool ((zs.take n).contains x)])∧∃q,w' =w.drewN q:=Any.slices_BinarySearch_int Tryz.laysNm225 b off n c zs x w hz hbig hc hs
open Go.RowKit Go.Lib in
theorem Tryz.slices_BinarySearch_int_empty (a:Option Addr) (c:Nat) (x:Int) (w:World) :
  Calls Tryz.prog 171 #[.slice a 0 c, .int .i64 x] w fun e w' =>e= .returned (.tuple #[.int .i64 0, .bool false])∧w' =w:=Any.slices_BinarySearch_int_empty Tryz.laysNm225 a c x w
end Go.Proofs

namespace Go.Proofs.YthblfhgofopcaaaGreat
open Go.RowKit
structure Gp where
 wh:Int
 kd:Int
 op:Bool
def Ak (s:AL) (a k:Int):Int:=if a<1∨5<a then 4 else if k<0∨AY s≤k then 2 else if a=1∧AT s k=false then 3 else 0
def AI (a k:Int):List Int:=if a=1 then [k,k+1,k+2] else if a=2 then [k,k,k] else if a=3 then [k,k,k,k] else if a=4 then [k,k] else [k]
def BT (s:AL) (a k:Int):List Int:=if AP s=0∧Ak s a k=0 then AI a k else []
def Tp (w:World) (zs:List Int) (e:Ending) (w' :World):Prop:=∃v,e= .returned v∧BO w' v zs∧Aw w w'
theorem WC {W:World} {zs:List Int} {cs:Array Value} (hc:cs=(Ke zs).toArray) (hl:zs.length≤1000):BO (W.alloc (.cells cs 3)) (.slice (some ⟨W.heap.size,0,none⟩) zs.length zs.length) zs:=by
 subst hc;exact (Ei.new_at (w:=W) (xs:=Ke zs) rfl).is (by unfold maxLen;omega)
theorem Tp.mk {w W:World} {zs:List Int} {cs:Array Value} {n:Nat} (hc:cs=(Ke zs).toArray) (hn:n=zs.length) (hl:zs.length≤1000) (hg:Aw w W):Tp w zs (.returned (.slice (some ⟨W.heap.size,0,none⟩) n n)) (W.alloc (.cells cs 3)) :=
 ⟨_,rfl,by rw [hn];exact WC hc hl,hg.alloc _⟩
theorem DI {s:AL} (h:AP s=0):AY s≤60:=by
 have:=(AU h).plain;unfold AY;rw [if_pos h];omega
def KD (w:World) (v:Value) (l:List Gp):Prop :=
 ∃A c,v= .slice A l.length c∧l.length≤c∧c≤maxLen∧∀i,(h:i<l.length)→∃ad,A=some ad∧ad.block<w.heap.size∧w.cell? (ad.add (i*3))=some (.int .i64 l[i].wh)∧w.cell? ⟨(ad.add (i*3)).block,(ad.add (i*3)).off+1,none⟩=some (.int .i64 l[i].kd)∧w.cell? ⟨(ad.add (i*3)).block,(ad.add (i*3)).off+2,none⟩=some (.bool l[i].op)
theorem KD.grow {w w' :World} {v:Value} {l:List Gp} (h:KD w v l) (g:Aw w w'):KD w' v l:=by
 obtain ⟨A,c,rfl,h1,h2,h3⟩:=h;refine ⟨A,c,rfl,h1,h2,fun i hi=> ?_⟩;obtain ⟨ad,e,hb,x0,x1,x2⟩:=h3 i hi;exact ⟨ad,e,Nat.lt_of_lt_of_le hb g.size,g.cell_some x0,g.cell_some x1,g.cell_some x2⟩
theorem KD.nil {w:World}:KD w (.slice none 0 0) []:=⟨none,0,rfl,Nat.le_refl _,Nat.zero_le _,fun i h=>absurd h (by simp)⟩
structure Hd where
 bag:List Int
 me:List Gp
def SK (w:World) (v:Value) (h:Hd):Prop:=∃a b,v= .agg #[a,b]∧BO w a h.bag∧KD w b h.me
theorem SK.grow {w w' :World} {v:Value} {h:Hd} (k:SK w v h) (g:Aw w w'):SK w' v h:=by
 obtain ⟨a,b,e,h1,h2⟩:=k;exact ⟨a,b,e,h1.grow g,h2.grow g⟩
def BJ (s:AL) (g:Gp):Int:=if 3<g.wh then 4 else if Ak s g.wh g.kd≠0 then Ak s g.wh g.kd else if g.wh≠3∧g.op=false then 3 else 0
def AO (s:AL):AV:= .agg [I s.pl,AN false s.su,I s.wi,I s.dr,I s.fl,I s.co,I s.me,I s.de,AN false s.re]
def AZ (g:Gp):AV:= .agg [I g.wh,I g.kd,B g.op]
abbrev AX (f:Bool) (l:List Gp):AV:= .sl f 3 (l.map AZ)
def Cb (f:Bool) (h:Hd):AV:= .agg [AN f h.bag,AX f h.me]
structure Fm where
 wh:Int
 ks:List Int
 ag:Bool
def DN (f:Bool) (m:Fm):AV:= .agg [I m.wh,AN f m.ks,B m.ag]
abbrev Bh (f:Bool) (l:List Fm):AV:= .sl f 3 (l.map (DN f))
structure Rg where
 fm:Int
 gs:List Gp
 at_:Int
def Hi (f:Bool) (r:Rg):AV:= .agg [I r.fm,AX f r.gs,I r.at_]
abbrev N0 (f:Bool) (l:List Rg):AV:= .sl f 3 (l.map (Hi f))
abbrev EG (f:Bool) (l:List (List Gp)):AV:= .sl f 1 (l.map (AX f))
@[go_sem] theorem oX (s:AL):(AO s).cs=[I s.pl,AN false s.su,I s.wi,I s.dr,I s.fl,I s.co,I s.me,I s.de,AN false s.re]:=rfl
@[go_sem] theorem iK (s:AL):PD (AO s)=true:=rfl
@[go_sem] theorem cP (s:AL):Ce (AO s)=true:=rfl
@[go_sem] theorem rY (g:Gp):(AZ g).cs=[I g.wh,I g.kd,B g.op]:=rfl
@[go_sem] theorem jF (g:Gp):PD (AZ g)=true:=rfl
@[go_sem] theorem dC (g:Gp):Ce (AZ g)=true:=rfl
@[go_sem] theorem uE (f:Bool) (h:Hd):(Cb f h).cs=[AN f h.bag,AX f h.me]:=rfl
@[go_sem] theorem kA (f:Bool) (h:Hd):PD (Cb f h)=true:=rfl
@[go_sem] theorem dK (f:Bool) (h:Hd):Ce (Cb f h)=true:=rfl
@[go_sem] theorem sK (f:Bool) (m:Fm):(DN f m).cs=[I m.wh,AN f m.ks,B m.ag]:=rfl
@[go_sem] theorem jH (f:Bool) (m:Fm):PD (DN f m)=true:=rfl
@[go_sem] theorem dJ (f:Bool) (m:Fm):Ce (DN f m)=true:=rfl
@[go_sem] theorem s6 (f:Bool) (r:Rg):(Hi f r).cs=[I r.fm,AX f r.gs,I r.at_]:=rfl
@[go_sem] theorem kR (f:Bool) (r:Rg):PD (Hi f r)=true:=rfl
@[go_sem] theorem dP (f:Bool) (r:Rg):Ce (Hi f r)=true:=rfl
section
variable {inv:Nat→Option Nat} {h:HF} {F:Nat→Nat→Nat→Nat→AV} {q:Nat→Nat} {r:Nat} {f:Bool}
@[go_sem] theorem iP (s:AL):(AO s).pass inv h=AO s:=by simp only [AO,AV.pass,passL,PT]
@[go_sem] theorem kD (s:AL):(AO s).fin inv F=AO s:=by simp only [AO,AV.fin,finL,SS]
@[go_sem] theorem kU (s:AL):(AO s).ren q=AO s:=by simp only [AO,AV.ren,renL,Sy]
@[go_sem] theorem kP (s:AL):(AO s).nob inv=true:=by simp only [AO,AV.nob,nobL,Pd];rfl
@[go_sem] theorem iM (s:AL):(AO s).away r=true:=by simp only [AO,AV.away,awayL,L1];rfl
@[go_sem] theorem jI (g:Gp):(AZ g).pass inv h=AZ g:=rfl
@[go_sem] theorem oQ (g:Gp):(AZ g).fin inv F=AZ g:=rfl
@[go_sem] theorem rG (g:Gp):(AZ g).low=AZ g:=rfl
@[go_sem] theorem qU (g:Gp):(AZ g).ren q=AZ g:=rfl
@[go_sem] theorem lM (g:Gp):(AZ g).nob inv=true:=rfl
@[go_sem] theorem kN (g:Gp):(AZ g).allT=true:=rfl
@[go_sem] theorem jP (g:Gp):(AZ g).away r=true:=rfl
@[go_sem] theorem Kt (l:List Gp):passL inv h (l.map AZ)=l.map AZ:=IU (fun _=>rfl) l
@[go_sem] theorem Np (l:List Gp):finL inv F (l.map AZ)=l.map AZ:=Ju (fun _=>rfl) l
@[go_sem] theorem lowL_eGp (l:List Gp):lowL (l.map AZ)=l.map AZ:=M0 (fun _=>rfl) l
@[go_sem] theorem Mm (l:List Gp):renL q (l.map AZ)=l.map AZ:=Jl (fun _=>rfl) l
@[go_sem] theorem Rl (l:List Gp):nobL inv (l.map AZ)=true:=Mv (fun _=>rfl) l
@[go_sem] theorem iU (l:List Gp):allTL (l.map AZ)=true:=VX (fun _=>rfl) l
@[go_sem] theorem IP (l:List Gp):awayL r (l.map AZ)=true:=Gn (fun _=>rfl) l
@[go_sem] theorem qG (l:List Gp):(∀u∈l.map AZ,∀v∈u.cs,v.one=true)=True:=L7 (fun x v hv=>by simp [AV.cs,AZ] at hv;rcases hv with rfl | rfl | rfl<;>rfl) l
@[go_sem] theorem Vq (m:Fm):(DN f m).pass inv h=DN false m:=by simp only [DN,AV.pass,passL,PT]
@[go_sem] theorem bW (m:Fm):(DN f m).fin inv F=DN f m:=by simp only [DN,AV.fin,finL,SS]
@[go_sem] theorem Yr (m:Fm):(DN f m).ren q=DN f m:=by simp only [DN,AV.ren,renL,Sy]
@[go_sem] theorem iV (l:List Fm):passL inv h (l.map (DN f))=l.map (DN false):=IU Vq l
@[go_sem] theorem kW (l:List Fm):finL inv F (l.map (DN f))=l.map (DN f):=Ju bW l
@[go_sem] theorem jZ (l:List Fm):renL q (l.map (DN f))=l.map (DN f):=Jl Yr l
@[go_sem] theorem kX (l:List Fm):nobL inv (l.map (DN f))=true:=Mv (fun m=>by simp only [DN,AV.nob,nobL,Pd];rfl) l
@[go_sem] theorem jA (l:List Fm):awayL r (l.map (DN f))=true:=Gn (fun m=>by simp only [DN,AV.away,awayL,L1];rfl) l
@[go_sem] theorem Wg (m:Rg):(Hi f m).pass inv h=Hi false m:=by simp only [Hi,AV.pass,passL,Kt]
@[go_sem] theorem bJ (m:Rg):(Hi f m).fin inv F=Hi f m:=by simp only [Hi,AV.fin,finL,Np]
@[go_sem] theorem Y4 (m:Rg):(Hi f m).low=Hi false m:=by simp only [Hi,AV.low,lowL,lowL_eGp]
@[go_sem] theorem ZJ (m:Rg):(Hi f m).ren q=Hi f m:=by simp only [Hi,AV.ren,renL,Mm]
@[go_sem] theorem iN (l:List Rg):passL inv h (l.map (Hi f))=l.map (Hi false):=IU Wg l
@[go_sem] theorem kY (l:List Rg):finL inv F (l.map (Hi f))=l.map (Hi f):=Ju bJ l
@[go_sem] theorem Ye (l:List Rg):lowL (l.map (Hi f))=l.map (Hi false):=M0 Y4 l
@[go_sem] theorem kB (l:List Rg):renL q (l.map (Hi f))=l.map (Hi f):=Jl ZJ l
@[go_sem] theorem iL (l:List Rg):awayL r (l.map (Hi f))=true:=Gn (fun m=>by simp only [Hi,AV.away,awayL,IP];rfl) l
@[go_sem] theorem lA (m:Fm):(DN f m).nob inv=true:=by simp only [DN,AV.nob,nobL,Pd];rfl
@[go_sem] theorem kM (m:Fm):(DN f m).away r=true:=by simp only [DN,AV.away,awayL,L1];rfl
@[go_sem] theorem jM (m:Rg):(Hi f m).away r=true:=by simp only [Hi,AV.away,awayL,IP];rfl
@[go_sem] theorem kI (m:Hd):(Cb f m).pass inv h=Cb false m:=by simp only [Cb,AV.pass,passL,PT,Kt]
@[go_sem] theorem oR (m:Hd):(Cb f m).fin inv F=Cb f m:=by simp only [Cb,AV.fin,finL,SS,Np]
@[go_sem] theorem m6 (m:Hd):(Cb f m).ren q=Cb f m:=by simp only [Cb,AV.ren,renL,Sy,Mm]
@[go_sem] theorem nR (m:Hd):(Cb f m).nob inv=true:=by simp only [Cb,AV.nob,nobL,Pd,Rl];rfl
@[go_sem] theorem jE (m:Hd):(Cb f m).away r=true:=by simp only [Cb,AV.away,awayL,L1,IP];rfl
@[go_sem] theorem gU (l:List (List Gp)):passL inv h (l.map (fun g=>AX f g))=l.map (fun g=>AX false g):=IU (fun m=>by simp only [AV.pass,Kt]) l
@[go_sem] theorem iX (l:List (List Gp)):finL inv F (l.map (fun g=>AX f g))=l.map (fun g=>AX f g):=Ju (fun m=>by simp only [AV.fin,Np]) l
@[go_sem] theorem lowL_eGps (l:List (List Gp)):lowL (l.map (fun g=>AX f g))=l.map (fun g=>AX false g):=M0 (fun m=>by simp only [AV.low,lowL_eGp]) l
@[go_sem] theorem iO (l:List (List Gp)):renL q (l.map (fun g=>AX f g))=l.map (fun g=>AX f g):=Jl (fun m=>by simp only [AV.ren,Mm]) l
@[go_sem] theorem iJ (l:List (List Gp)):nobL inv (l.map (fun g=>AX f g))=true:=Mv (fun m=>by simp only [AV.nob,Rl]) l
@[go_sem] theorem gE (l:List (List Gp)):awayL r (l.map (fun g=>AX f g))=true:=Gn (fun m=>by simp only [AV.away,IP]) l
end
section
variable {c:Cx} {h:HF}
theorem WO {f:Bool} {sz:Nat} {es:List AV} {y:Value} (k:AS c h (.sl f sz es) y):∃A n cap,y= .slice A n cap∧n=es.length∧n≤cap∧cap≤maxLen∧∀(i:Nat) (e:AV),es[i]? =some e→∃b o,A=some ⟨b,o,none⟩∧b<c.w.heap.size∧∀(j:Nat) (x:AV),e.cs[j]? =some x→∃v,c.w.cell? ⟨b,o+i*sz+j,none⟩=some v∧AS c h x v:=by
 cases k with
 | slE _ _ A cap hc=>exact ⟨A,0,cap,rfl,rfl,Nat.zero_le _,hc,fun i e he=>by simp at he⟩
 | sl _ _ _ b o cap ys h1 h2 hs hz' hc hr =>
  exact ⟨_,_,cap,rfl,rfl,h1,h2,fun i e he=>⟨b,o,rfl,hs.1,fun j x hx=>⟨ys i j,hc i e j x he hx,hr i e j x he hx⟩⟩⟩
theorem Mp {f:Bool} {zs:List Int} {y:Value} (k:AS c h (AN f zs) y):BO c.w y zs:=by
 obtain ⟨A,n,cap,rfl,rfl,h1,h2,h3⟩:=WO k;rw [List.length_map] at *;refine ⟨A,cap,rfl,h1,h2,fun i u hu=> ?_⟩;rw [Ke,List.getElem?_map] at hu;cases hz:zs[i]? with
 | none=>rw [hz] at hu;cases hu
 | some z =>
  rw [hz] at hu;injection hu with hu
  obtain ⟨b,o,rfl,hb,hcell⟩:=h3 i (I z) (by rw [List.getElem?_map,hz];rfl);obtain ⟨v,hv,hr⟩:=hcell 0 (I z) rfl;refine ⟨_,rfl,hb,?_⟩;rw [←hu];cases hr;rw [Addr.add_lit];simpa using hv
theorem Pj {s:AL} {y:Value} (k:AS c h (AO s) y):F5 c.w y s:=by
 unfold AO at k;cases k with
 | agg _ ys hl hr =>
  obtain ⟨l⟩:=ys;simp at hl;match l,hl with
  | [v0,v1,v2,v3,v4,v5,v6,v7,v8],_ =>
   have r0:=hr 0 _ v0 rfl rfl;have r1:=hr 1 _ v1 rfl rfl;have r2:=hr 2 _ v2 rfl rfl;have r3:=hr 3 _ v3 rfl rfl;have r4:=hr 4 _ v4 rfl rfl;have r5:=hr 5 _ v5 rfl rfl;have r6:=hr 6 _ v6 rfl rfl;have r7:=hr 7 _ v7 rfl rfl;have r8:=hr 8 _ v8 rfl rfl;have e0:=As r0;have e2:=As r2;have e3:=As r3;have e4:=As r4;have e5:=As r5;have e6:=As r6;have e7:=As r7;subst e0 e2 e3 e4 e5 e6 e7;exact ⟨v1,v8,rfl,Mp r1,Mp r8⟩
theorem TU {x:AV} {vals:Array Value} (k:QX c h [x] vals):∃v,vals= #[v]∧AS c h x v:=by
 obtain ⟨l⟩:=vals;obtain ⟨hl,hr⟩:=k;match l,hl with
 | [v],_=>exact ⟨v,rfl,hr 0 _ v rfl rfl⟩
theorem IJ {x x' :AV} {vals:Array Value} (k:QX c h [x,x'] vals):∃v v',vals= #[v,v']∧AS c h x v∧AS c h x' v' :=by
 obtain ⟨l⟩:=vals;obtain ⟨hl,hr⟩:=k;match l,hl with
 | [v,v'],_=>exact ⟨v,v',rfl,hr 0 _ v rfl rfl,hr 1 _ v' rfl rfl⟩
end
section
theorem Bv (s:AL):AM Tryz.prog 76 [AO s] (I (AP s)):=LQ ⟨_,_,Tryz.func76,rfl,rfl⟩ fun c vals hx=>by
 obtain ⟨v,rfl,k⟩:=TU hx;exact Ou v s c.w (Pj k)
end
def F8 (m z:Int):Bool:=decide (z<0) || decide (m<z)
def Be (s:AL) (bag:List Int):Int:=if (bag.length:Int)≠AY s then 3 else if bag.any (F8 s.co)=true then 2 else 0
end Go.Proofs.YthblfhgofopcaaaGreat
