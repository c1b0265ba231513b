/-
  Parts of the proof: CheckR, App, Sizes, Clone, Concat, Range, Iter.
-/
import Derived.Test.YthblfhgofopcaaaGreatSH15
import Derived.Deep.QuietTactic
import Derived.BigQuiet
import Derived.Lib.AppendZerosOnto
import Derived.Lib.SliceRun
import Derived.Lib.Walk
import Derived.RangeFuncNested
import Derived.RangeFuncBound
import Derived.RangeFuncCalls
import Derived.RangeFuncLeaves
import Derived.Test.YthblfhgofopcaaaGreatSH01
import Derived.Shelf.Abstract
import Derived.Shelf.RegionOpen
import Derived.OwnWalkIn
import Derived.TacticsInMore
import Derived.LoopNIn
import Derived.LoopIn
import Derived.Outline
set_option linter.all false
namespace Go.Proofs.YthblfhgofopcaaaGreat
open Go.RowKit
def MR (zs:List Int) (k:Nat):Int:=if h:0<k∧k-1<zs.length then zs[k-1]'h.2 else -1
theorem Sd (zs:List Int):MR zs 0= -1:=by unfold MR;rw [dif_neg (by omega)]
theorem MK {zs:List Int} {k:Nat} (h:k<zs.length):MR zs (k+1)=zs[k]:=by
 unfold MR;rw [dif_pos ⟨by omega,by simpa using h⟩];simp
theorem Ia {w:World} {T:Nat} {s:AL} {a b:Value} (h:Ei w T 24 (HL s a b)):w.cell? ⟨T,0,none⟩=some (.int .i64 s.pl)∧w.cell? ⟨T,1,none⟩=some a∧w.cell? ⟨T,2,none⟩=some (.int .i64 s.wi)∧w.cell? ⟨T,3,none⟩=some (.int .i64 s.dr)∧w.cell? ⟨T,4,none⟩=some (.int .i64 s.fl)∧w.cell? ⟨T,5,none⟩=some (.int .i64 s.co)∧w.cell? ⟨T,6,none⟩=some (.int .i64 s.me)∧w.cell? ⟨T,7,none⟩=some (.int .i64 s.de)∧w.cell? ⟨T,8,none⟩=some b :=
 ⟨h.cell 0,h.cell 1,h.cell 2,h.cell 3,h.cell 4,h.cell 5,h.cell 6,h.cell 7,h.cell 8⟩
def AY (s:AL):Int:=if AP s=0 then AQ s else 0
theorem F1 {s:AL} (h:AP s=0):AY s=AQ s:=if_pos h
theorem Id {s:AL} (h:AP s≠0):AY s=0:=if_neg h
theorem Ov.tiles {s:AL} (h:Ov s):0≤AQ s*s.co∧AQ s*s.co≤136:=Pi ⟨by have:=h.plain;omega,h.plain.2⟩ h.co
theorem Own.cell {w0 w:World} {g cap:Nat} {os:List Int} (h:Own w0 w (.slice (some ⟨g,0,none⟩) os.length cap) os) {i:Nat} (hi:i<os.length):w.cell? ⟨g,i,none⟩=some (.int .i64 os[i]):=by
 rw [World.ownsRow.cellAt h i (by omega)];simp [hi]
theorem Own.free {w0 w:World} {g n cap:Nat} {os:List Int} (h:w.ownsRow w0.heap.size 3 1 (.slice (some ⟨g,0,none⟩) n cap) n (Ke os)) (i:Nat):w.frozen? ⟨g,i,none⟩=false:=World.ownsRow.frozenAt h i
theorem Own.set {w0 w:World} {g cap:Nat} {os:List Int} (h:Own w0 w (.slice (some ⟨g,0,none⟩) os.length cap) os) (i:Nat) (z:Int):Own w0 (w.setCell ⟨g,i,none⟩ (.int .i64 z)) (.slice (some ⟨g,0,none⟩) os.length cap) (os.set i z):=by
 have h1:=(World.ownsRow.stored h i (.int .i64 z)).1;unfold Own;rw [Ke,List.map_set,List.length_set];exact h1
structure CV (B A:Nat) (W W' :World):Prop where
 os:W'.os=W.os
 tape:W'.tape=W.tape
 output:W'.output=W.output
 size:W.heap.size≤W'.heap.size
 blk:∀k,k<W.heap.size→k≠A→(k<B∨∃cs t fr,W.heap[k]? =some (.cells cs t fr))→W'.heap[k]? =W.heap[k]?
section
variable {B A:Nat} {W W' :World}
theorem CV.of_grow (h:Aw W W'):CV B A W W' :=⟨h.os,h.tape,h.output,h.size,fun _ hk _ _=>h.blk hk⟩
theorem CV.setA (W:World) (i:Nat) (u:Value):CV B A W (W.setCell ⟨A,i,none⟩ u) :=
 ⟨rfl,rfl,rfl,by simp,fun k _ hne _=>Below.heap_setCell _ _ _ _ hne⟩
theorem CV.putObj {l:Nat} {o:Obj} (o' :Obj) (h:W.heap[l]? =some o) (ho:o.isCells=false) (hl:B≤l):CV B A W (W.putObj l o') :=
 ⟨rfl,rfl,rfl,by simp,fun k _ _ hk=>World.putObj_heap_other (by
  rintro rfl
  rcases hk with hk | ⟨cs,t,fr,hk⟩
  ·omega
  ·rw [h] at hk
   cases hk
   cases ho)⟩
theorem CV.cells {k:Nat} {cs:Array Value} {t:TypeId} {fr:Nat×Nat} (h:CV B A W W') (hk:W.heap[k]? =some (.cells cs t fr)) (hne:k≠A):W'.heap[k]? =some (.cells cs t fr) :=
 (h.blk k (lt_of_block hk) hne (.inr ⟨cs,t,fr,hk⟩)).trans hk
theorem CV.old {k:Nat} {o:Obj} (h:CV B A W W') (hk:W.heap[k]? =some o) (hne:k≠A) (hB:k<B):W'.heap[k]? =some o :=
 (h.blk k (lt_of_block hk) hne (.inl hB)).trans hk
theorem CV.grow {w:World} (h:CV B A W W') (hg:Aw w W) (hA:w.heap.size≤A) (hB:w.heap.size≤B):Aw w W' :=
 ⟨h.os.trans hg.os,h.tape.trans hg.tape,h.output.trans hg.output,Nat.le_trans hg.size h.size,fun k hk=>(h.blk k (Nat.lt_of_lt_of_le hk hg.size) (by omega) (.inl (by omega))).trans (hg.block k hk)⟩
end
def Q8 {α:Type} (P:Program) (g:Nat) (lb:Array Value) (encs:α→Array Value) (S:List α) (Ok:World→Prop):Prop :=
 ∀(m l:Nat) (J Jx:Nat→List α→World→Prop) (W:World),Ok W→
  (∀A s W1 W2,J A s W1→CV W.heap.size A W1 W2→J A s W2)→(∀A s W1 W2,Jx A s W1→CV W.heap.size A W1 W2→Jx A s W2)→
  (∀A s W1,J A s W1→Ok W1)→
  (∀A pre x W1,W.heap.size≤A→A<W1.heap.size→J A pre W1→pre++[x] <+: S→∀m,YieldAt Fence.wide m P l (encs x) W1 fun e W' =>
   (e= .returned (.bool true)∧J A (pre++[x]) W' ∧W1.heap.size≤W'.heap.size∧∀k,W.heap.size≤k→k≤A→W'.heap[k]? =W1.heap[k]?)∨(e= .returned (.bool false)∧Jx A (pre++[x]) W'))→
  (∀A W1,Aw W W1→W.heap.size≤A→A<W1.heap.size→J A [] W1)→
  CallsIn Fence.wide m P g (#[.func (.yield l) #[] #[]]++lb) W fun e W' =>(∃v,e= .returned v)∧∃A,W.heap.size≤A∧(J A S W' ∨∃pre,pre <+: S∧Jx A pre W')
def V9 {α:Type} (B A:Nat) (I Ix:Nat→List α→World→Prop) (xs:List α) (W:World):Exit→Act→World→Prop
 | .normal,_,W' =>KeepsOthers W W' ∧(∀k,B≤k→k≤A→W'.heap[k]? =W.heap[k]?)∧I A xs W'
 | .ret,_,W' =>KeepsOthers W W' ∧Ix A xs W'
 | _,_,_=>False
theorem VE {α:Type} {P:Program} {g:Operand} {ps:Array Tmp} {assign body:Code} {Q:Exit→Act→World→Prop} {a:Act} {w:World} {n gf:Nat} {lb:Array Value}
  (hg:a.eval g= .func (.func gf) #[] lb) (eg:∀args w,(callFunc gf args).run P w= .ok (.enter gf args) w)
  {encs:α→Array Value} {S:List α} {Ok:World→Prop} (hit:Q8 P gf lb encs S Ok) (hps:∀x,(encs x).size=ps.size) (hok0:∀W,Aw w W→Ok W)
  (I Ix:Nat→List α→World→Prop) (hI:∀A s W W',I A s W→CV w.heap.size A W W' →I A s W') (hIx:∀A s W W',Ix A s W→CV w.heap.size A W W' →Ix A s W') (hok:∀A s W,I A s W→Ok W)
  (h0:∀A W,Aw w W→w.heap.size+2≤A→A<W.heap.size→I A [] W)
  (Ax:Nat→List α→α→Act→World→Prop) (hAx:∀A s x a' W W',Ax A s x a' W→CV w.heap.size A W W' →Ax A s x a' W')
  (hassign:∀(l m A:Nat) (pre:List α) (x:α) (W:World) (K:Act→World→Prop),w.heap.size+2≤A→A<W.heap.size→I A pre W→pre++[x] <+: S→
   (∀a' W',KeepsOthers W W' →(∀k,w.heap.size+2≤k→k≤A→W'.heap[k]? =W.heap[k]?)→Ax A pre x a' W' →K a' W')→
   assign.wpIn (Fence.wide.inRound l) m P (Exit.then K (fun _ _ _=>False)) { tmps:=(ps.zip (encs x)).foldl (fun t (p,v)=>t.setIfInBounds p v) a.tmps,defers:=[] } W)
  (hbody:∀(l m A:Nat) (pre:List α) (x:α) (a' :Act) (W:World),w.heap.size+2≤A→A<W.heap.size→Ax A pre x a' W→pre++[x] <+: S→
   body.wpIn (Fence.wide.inRound l) m P (V9 (w.heap.size+2) A I Ix (pre++[x]) W) a' W)
  (hdone:∀(D A:Nat) (W:World),w.heap.size≤D→w.heap.size+2≤A→I A S W→W.heap[D]? =some (.deferred (some []))→Q .normal { a with defers:={ target:= .collected D,args:= #[] }::a.defers } W)
  (hstop:∀(D A:Nat) (pre:List α) (W:World),w.heap.size≤D→w.heap.size+2≤A→pre <+: S→Ix A pre W→W.heap[D]? =some (.deferred (some []))→Code.ret.wpIn Fence.wide n P Q { a with defers:={ target:= .collected D,args:= #[] }::a.defers } W) :
  (Code.rangeFunc g ps assign body).wpIn Fence.wide n P Q a w:=by
 refine wpIn_rangeFunc fun fn hfn=> ?_
 let rec_:LoopState→Option Code→Loop:=fun st pe=>{ state:=st,pending:=pe,fn,tmps:=a.tmps,params:=ps,assign,body,defers:=w.heap.size }
 let V:World:=(w.alloc (.deferred (some []))).alloc (.loop (rec_ .ready none));have hsz:V.heap.size=w.heap.size+2:=by simp [V]
 have gV:Aw w V:=((Aw.refl w).alloc _).alloc _;have hL:V.heap[w.heap.size+1]? =some (.loop (rec_ .ready none)):=by
  have h:=World.alloc_heap_new (w.alloc (.deferred (some []))) (.loop (rec_ .ready none));rwa [World.size_alloc] at h
 have hD:V.heap[w.heap.size]? =some (.deferred (some [])):=(Below.heap_alloc _ _ _ (by simp)).trans (World.alloc_heap_new w _);refine ⟨w.heap.size+1,[{ target:= .collected w.heap.size,args:= #[] }],V,{ target:= .fn (.func gf) lb,args:= #[.func (.yield (w.heap.size+1)) #[] #[]] },V,gf,
  #[.func (.yield (w.heap.size+1)) #[] #[]]++lb,V,run_enterLoop_outer _ _ _ _ _,?_,fun _ _=>trivial,?_,fun h=>by simp [Fence.wide] at h,?_⟩
 ·simp only [resolve,hg];simp [go_sem]
 ·simp [invoke,go_sem,eg]
 ·let Recs:Loop→World→Prop:=fun r W=>W.heap[w.heap.size+1]? =some (.loop r)∧W.heap[w.heap.size]? =some (.deferred (some []))
  have hrecs:∀{A:Nat} {r:Loop} {W W' :World},w.heap.size+2≤A→Recs r W→CV (w.heap.size+2) A W W' →Recs r W' :=fun hA h t=>⟨t.old h.1 (by omega) (by omega),t.old h.2 (by omega) (by omega)⟩
  have weak:∀{A:Nat} {W W' :World},CV (w.heap.size+2) A W W' →CV w.heap.size A W W' :=fun t=>⟨t.os,t.tape,t.output,t.size,fun k hk hne h=>t.blk k hk hne (h.imp (fun h=>by omega) id)⟩
  refine (hit (n-1) (w.heap.size+1) (fun A s W=>w.heap.size+2≤A∧I A s W∧Recs (rec_ .ready none) W) (fun A s W=>w.heap.size+2≤A∧Ix A s W∧Recs (rec_ .done (some .ret)) W) V (hok0 _ gV)
   (fun A s W W' h t=>by rw [hsz] at t;exact ⟨h.1,hI _ _ _ _ h.2.1 (weak t),hrecs h.1 h.2.2 t⟩) (fun A s W W' h t=>by rw [hsz] at t;exact ⟨h.1,hIx _ _ _ _ h.2.1 (weak t),hrecs h.1 h.2.2 t⟩)
   (fun A s W h=>hok _ _ _ h.2.1) ?_ (fun A W1 hg1 hA hA' => ?_)).mono ?_
  ·rintro A pre x W _ hAW ⟨hA,hi,hl,hd⟩ hpre m;have hlt:w.heap.size+1<W.heap.size:=(Array.getElem?_eq_some_iff.1 hl).1;refine ⟨fn,_,assign,body,run_yield (P:=P) (args:=encs x) hl (hps x),roundIn_of_wpIn hfn (hassign _ _ A pre x W _ hA hAW hi hpre fun a' W2 hk2 hp2 hax=> ?_)⟩;have hl2:=hk2.same _ _ hl rfl;have hd2:=hk2.same _ _ hd rfl;refine ⟨_,run_beginRound hl2 rfl,?_⟩;have t3:CV w.heap.size A W2 (W2.putObj (w.heap.size+1) (.loop { rec_ .ready none with state:= .busy })):=CV.putObj _ hl2 rfl (by omega);have hl3:(W2.putObj (w.heap.size+1) (.loop { rec_ .ready none with state:= .busy })).heap[w.heap.size+1]? =some (.loop { rec_ .ready none with state:= .busy }):=World.putObj_heap_same (Array.getElem?_eq_some_iff.1 hl2).1;have hd3:(W2.putObj (w.heap.size+1) (.loop { rec_ .ready none with state:= .busy })).heap[w.heap.size]? =some (.deferred (some [])):=(World.putObj_heap_other (by omega)).trans hd2;have hp3:∀k,w.heap.size+2≤k→k≤A→(W2.putObj (w.heap.size+1) (.loop { rec_ .ready none with state:= .busy })).heap[k]? =W.heap[k]? :=fun k h1 h2=>(World.putObj_heap_other (by omega)).trans (hp2 k h1 h2)
   have hs3:A<(W2.putObj (w.heap.size+1) (.loop { rec_ .ready none with state:= .busy })).heap.size:=by have:=hk2.size;simp;omega
   refine wpIn_mono (hbody _ _ A pre x a' _ hA hs3 (hAx _ _ _ _ _ _ hax t3) hpre) ?_;have hgs:=hk2.size;generalize hW3:W2.putObj (w.heap.size+1) (.loop { rec_ .ready none with state:= .busy })=W3 at *;have hs32:W3.heap.size=W2.heap.size:=by rw [←hW3];simp
   rintro e a4 W4 hp;cases e with
   | normal =>
    obtain ⟨hk4,hp4,hi4⟩:=hp;have hl4:=hk4.same _ _ hl3 rfl;have hd4:=hk4.same _ _ hd3 rfl;have h4s:=hk4.size;refine ⟨_,_,run_endRound (P:=P) none hl4, .inl ⟨rfl,⟨hA,hI _ _ _ _ hi4 (CV.putObj _ hl4 rfl (by omega)),World.putObj_heap_same (Array.getElem?_eq_some_iff.1 hl4).1,(World.putObj_heap_other (by omega)).trans hd4⟩,by simp;omega,fun k h1 h2=> ?_⟩⟩;rw [hsz] at h1;exact ((World.putObj_heap_other (by omega)).trans (hp4 k h1 h2)).trans (hp3 k h1 h2)
   | ret =>
    obtain ⟨hk4,hi4⟩:=hp;have hl4:=hk4.same _ _ hl3 rfl;have hd4:=hk4.same _ _ hd3 rfl;exact ⟨_,_,run_endRound (P:=P) (some .ret) hl4, .inr ⟨rfl,hA,hIx _ _ _ _ hi4 (CV.putObj _ hl4 rfl (by omega)),World.putObj_heap_same (Array.getElem?_eq_some_iff.1 hl4).1,(World.putObj_heap_other (by omega)).trans hd4⟩⟩
   | exit id=>exact hp.elim
   | goto t=>exact hp.elim
   | panic ch=>exact hp.elim
   | outgrown=>exact hp.elim
  ·rw [hsz] at hA;exact ⟨hA,h0 A W1 (gV.trans hg1) hA hA',hg1.blk_some hL,hg1.blk_some hD⟩
  ·rintro e W2 ⟨⟨v,rfl⟩,A,_,(⟨hA,hi,hl,hd⟩ | ⟨pre,hpre,hA,hi,hl,hd⟩)⟩
   ·exact ⟨none,_,run_endLoop (P:=P) hl (by simp [rec_]),hdone _ A _ (Nat.le_refl _) hA (hI _ _ _ _ hi (CV.putObj _ hl rfl (by omega))) ((World.putObj_heap_other (by omega)).trans hd)⟩
   ·exact ⟨some .ret,_,run_endLoop (P:=P) hl (by simp [rec_]),hstop _ A pre _ (Nat.le_refl _) hA hpre (hIx _ _ _ _ hi (CV.putObj _ hl rfl (by omega))) ((World.putObj_heap_other (by omega)).trans hd)⟩
end Go.Proofs.YthblfhgofopcaaaGreat

namespace Go.Proofs.YthblfhgofopcaaaGreat
open Go.RowKit Go.Shelf
attribute [local go_sem] Oper.semAt_some
abbrev A9:=Int×Int×Int
def YE (x:A9):Array Value:= #[.int .i64 x.1, .agg #[.int .i64 x.2.1, .int .i64 x.2.2]]
def DW (at_ suit:Int):Nat→List A9
 | 0=>[]
 | n+1=>DW at_ suit n++[(at_+n,suit,(n:Int))]
theorem EL (a s:Int) (n:Nat):(DW a s n).length=n:=by
 induction n with
 | zero=>rfl
 | succ n ih=>rw [DW,List.length_append,ih];rfl
def Hc (J:Nat→List A9→World→Prop) (B Y A l:Nat) (pre:List A9) (a:Int) (W W' :World):Prop :=
 J A pre W' ∧Ei W' A 3 [.int .i64 a]∧Ei W' Y 165 [.func (.yield l) #[] #[]]∧B≤Y∧Y<A∧W.heap.size≤W'.heap.size∧A<W.heap.size
def Si (J Jx:Nat→List A9→World→Prop) (S:List A9) (B Y A l:Nat) (pre:List A9) (a:Int) (W:World) (e:Ending) (W' :World):Prop :=
 (e= .returned (.bool true)∧Hc J B Y A l pre a W W')∨(e= .returned (.bool false)∧∃pre,pre <+: S∧Jx A pre W')
set_option maxHeartbeats 1000000 in
theorem eV {J Jx:Nat→List A9→World→Prop} {S:List A9} {B Y A l:Nat} (suit a:Int) (n:Nat) (pre:List A9) (W:World)
  (hJ:∀A s W1 W2,J A s W1→CV B A W1 W2→J A s W2)
  (hY:∀A pre x W1,B≤A→A<W1.heap.size→J A pre W1→pre++[x] <+: S→∀m,YieldAt Fence.wide m Tryz.prog l (YE x) W1 fun e W' =>
   (e= .returned (.bool true)∧J A (pre++[x]) W' ∧W1.heap.size≤W'.heap.size∧∀k,B≤k→k≤A→W'.heap[k]? =W1.heap[k]?)∨(e= .returned (.bool false)∧Jx A (pre++[x]) W'))
  (hpre:pre++DW a suit n <+: S) (h:Hc J B Y A l pre a W W) (ha:0≤a∧a≤1000) (hn:n≤1000) :
  CallsIn Fence.wide 10 Tryz.prog 167 #[.int .i64 suit, .int .i64 (n:Int), .pointer (some ⟨Y,0,none⟩), .pointer (some ⟨A,0,none⟩)] W (Si J Jx S B Y A l (pre++DW a suit n) (a+n) W):=by
 have h10:1≤10:=by omega
 have HJ:=BP hJ;have HY:=BP hY;have HP:=BP hpre;clear hJ hY hpre;refine callsIn_of_wp Tryz.func167 rfl trivial ?_ rfl;simp only [Tryz.ntmps167,List.size_toArray,List.length_cons,List.length_nil,Nat.reduceAdd,Nat.reduceSub,Array.replicate_succ,Array.replicate_zero,List.push_toArray,List.append_toArray,List.nil_append,List.cons_append];gi_wp2;gi_loopw [9] (fun i wr=>∃k:Nat,k≤n∧i= .int .i64 (k:Int)∧Hc J B Y A l (pre++DW a suit k) (a+k) W wr) (fun i _=>n-(intOf i).toNat);case atStart=>exact ⟨0,Nat.zero_le _,rfl,by simpa [DW] using h⟩
 case round =>
  obtain ⟨k,hk,rfl,hj,bA,bY,y0,y1,sz,sA⟩:=hrel;by_cases hlt:k<n
  ·have i1:(k:Int)<(n:Int):=by omega
   have hp:(pre++DW a suit k)++[(a+k,suit,(k:Int))] <+: S:=by
    refine List.IsPrefix.trans ?_ HP.out;rw [List.append_assoc];refine (List.prefix_append_right_inj _).2 ?_;have hx:∀m,k<m→DW a suit k++[(a+k,suit,(k:Int))] <+: DW a suit m:=fun m hm=>by
     induction m with
     | zero=>omega
     | succ m ih =>
      rw [DW];by_cases e:k=m
      ·subst e;exact List.prefix_refl _
      ·exact (ih (by omega)).trans (List.prefix_append _ _)
    exact hx n hlt
   obtain ⟨fn,tmps,assign,body,hy,hR⟩:=HY.out A _ _ wr (by omega) (by omega) hj hp 9;simp only [YE] at hy;have cA:=bA.cell 0;have cY:=bY.cell 0;simp only [List.getElem?_cons_zero] at cA cY;have HB:=BP (And.intro bA (And.intro bY sz));clear hj;gi_wp2;refine hR.mono ?_;rintro e W3 (⟨rfl,hJ3,hs3,hk3⟩ | ⟨rfl,hJx3⟩)
   ·have bA3:Ei W3 A 3 [.int .i64 (a+k)]:=(hk3 A (by omega) (Nat.le_refl _)).trans HB.out.1;have bY3:Ei W3 Y 165 [.func (.yield l) #[] #[]]:=(hk3 Y y0 (by omega)).trans HB.out.2.1;have cA3:=bA3.cell 0;have fA3:=bA3.free 0;simp only [List.getElem?_cons_zero] at cA3;have bA4:=bA3.set 0 (.int .i64 (a+k+1));have bY4:=bY3.far (p:=⟨A,0,none⟩) (by simp;omega) (.int .i64 (a+k+1));have hJ4:=HJ.out _ _ _ _ hJ3 (CV.setA (A:=A) W3 0 (.int .i64 (a+k+1)));have RES:=BP (And.intro bA4 (And.intro bY4 hJ4));clear bA4 bY4 hJ4 hk3 cA cY hy hR;gi_wp2;exact ⟨⟨k+1,by omega,by go_num,by rw [DW,←List.append_assoc];exact RES.out.2.2,by rw [show a+((k+1:Nat):Int)=a+k+1 by omega];exact RES.out.1,RES.out.2.1,y0,y1,by have:=HB.out.2.2;simp;omega,sA⟩,by simp only [intOf];omega⟩
   ·have RES:=BP (show Si J Jx S B Y A l (pre++DW a suit n) (a+n) W (.returned (.bool false)) W3 from .inr ⟨rfl,_,hp,hJx3⟩);clear cA cY hy hR hJx3;gi_wp2;go_ret;exact RES.out
  ·obtain rfl:k=n:=by omega
   have RES:=BP (show Si J Jx S B Y A l (pre++DW a suit k) (a+k) W (.returned (.bool true)) wr from .inl ⟨rfl,hj,bA,bY,y0,y1,sz,sA⟩);clear hj;gi_wp2;go_ret;exact RES.out
def Cf (l:List Int):Nat→List A9
 | 0=>[]
 | k+1=>Cf l k++DW (Aj (l.take k)) (k:Int) (l.getD k 0).toNat
def Ao (s:AL):Nat→List A9
 | 0=>Cf s.su s.su.length
 | 1=>Cf s.su s.su.length++DW (Aj s.su) (-1) s.wi.toNat
 | 2=>Cf s.su s.su.length++DW (Aj s.su) (-1) s.wi.toNat++DW (Aj s.su+s.wi) (-2) s.dr.toNat
 | _=>Cf s.su s.su.length++DW (Aj s.su) (-1) s.wi.toNat++DW (Aj s.su+s.wi) (-2) s.dr.toNat++DW (Aj s.su+s.wi+s.dr) (-3) s.fl.toNat
def F9 (s:AL):Nat→Int
 | 0=>Aj s.su
 | 1=>Aj s.su+s.wi
 | 2=>Aj s.su+s.wi+s.dr
 | _=>Aj s.su+s.wi+s.dr+s.fl
def D7 (s:AL):List A9:=if AP s=0 then Ao s 3 else []
theorem GN {s:AL} (h:AP s=0):D7 s=Ao s 3:=if_pos h
theorem Ji {s:AL} (h:AP s≠0):D7 s=[]:=if_neg h
theorem Nw (l:List Int) {k:Nat} (h:k≤l.length):Cf l k <+: Cf l l.length:=by
 have key:∀m,Cf l k <+: Cf l (k+m):=fun m=>by
  induction m with
  | zero=>exact List.prefix_refl _
  | succ m ih=>exact ih.trans (List.prefix_append _ _)
 have:=key (l.length-k);rwa [show k+(l.length-k)=l.length by omega] at this
theorem EB (s:AL) {k:Nat} (h:k≤3):Ao s k <+: Ao s 3:=by
 have p0:Ao s 0 <+: Ao s 1:=List.prefix_append _ _;have p1:Ao s 1 <+: Ao s 2:=List.prefix_append _ _;have p2:Ao s 2 <+: Ao s 3:=List.prefix_append _ _;rcases (show k=0∨k=1∨k=2∨k=3 by omega) with rfl | rfl | rfl | rfl
 ·exact p0.trans (p1.trans p2)
 ·exact p1.trans p2
 ·exact p2
 ·exact List.prefix_refl _
def Mh (T:Nat) (s:AL) (a b:Value) (W:World):Prop:=Ei W T 24 (HL s a b)∧BO W a s.su∧BO W b s.re
theorem Mh.grow {T:Nat} {s:AL} {a b:Value} {W W' :World} (h:Mh T s a b W) (g:Aw W W'):Mh T s a b W' :=⟨h.1.grow g,h.2.1.grow g,h.2.2.grow g⟩
theorem Mh.is {T:Nat} {s:AL} {a b:Value} {W:World} (h:Mh T s a b W):F5 W (.agg #[.int .i64 s.pl,a, .int .i64 s.wi, .int .i64 s.dr, .int .i64 s.fl, .int .i64 s.co, .int .i64 s.me, .int .i64 s.de,b]) s:=⟨a,b,rfl,h.2.1,h.2.2⟩
def HQ (J Jx:Nat→List A9→World→Prop) (S:List A9) (W:World) (e:Ending) (W' :World):Prop:=(∃v,e= .returned v)∧∃A,W.heap.size≤A∧(J A S W' ∨∃pre,pre <+: S∧Jx A pre W')
set_option maxRecDepth 100000 in
set_option maxHeartbeats 4000000 in
theorem NS (T:Nat) (s:AL) (a b:Value):Q8 Tryz.prog 166 #[.pointer (some ⟨T,0,none⟩)] YE (D7 s) (Mh T s a b):=by
 intro m l J Jx W hok hJ hJx hR hY h0;suffices hs:CallsIn Fence.wide 12 Tryz.prog 166 (#[.func (.yield l) #[] #[]]++ #[.pointer (some ⟨T,0,none⟩)]) W (HQ J Jx (D7 s) W) from callsIn_wide.2 (callsIn_wide.1 hs)
 have h12:1≤12:=by omega
 obtain ⟨A0,c,rfl,hc,hm,r1⟩:=id hok.2.1;unfold maxLen at hm;have HO:=BP hok;have CH:=BP (fun W' (hg:Aw W W')=>(callsIn_wide.2 (Ou _ s W' (hok.grow hg).is):CallsIn Fence.wide 11 _ _ _ _ _));have H0:=BP h0;have HJ:=BP hJ;have HR:=BP hR;have ROW:=BP (fun (Y A:Nat) (suit a:Int) (n:Nat) (pre:List A9) (W' :World) (hpre:pre++DW a suit n <+: D7 s) (h:Hc J W.heap.size Y A l pre a W' W') (ha:0≤a∧a≤1000) (hn:n≤1000)=>(callsIn_wide.2 (callsIn_wide.1 (eV (Jx:=Jx) (S:=D7 s) suit a n pre W' hJ hY hpre h ha hn)):CallsIn Fence.wide 11 _ _ _ _ _));clear hok h0 hJ hJx hR hY;by_cases e:AP s=0
 ·have V:=AU e;have hne:(AP s != 0)=false:=by simp [e]
  have HE:=BP (GN e);have HP:=BP (fun k=>Ek (l:=s.su.take k) fun z hz=>V.su z (List.mem_of_mem_take hz));have HS:=BP V.su;have v1:=V.wi;have v2:=V.dr;have v3:=V.su3;have v4:=V.fl;clear e V;generalize AP s=n at *;refine callsIn_of_wp Tryz.func166 rfl trivial ?_ rfl;simp only [Tryz.ntmps166,List.size_toArray,List.length_cons,List.length_nil,Nat.reduceAdd,Nat.reduceSub,Array.replicate_succ,Array.replicate_zero,List.push_toArray,List.append_toArray,List.nil_append,List.cons_append];obtain ⟨q0,q1,q2,q3,q4,q5,q6,q7,q8⟩:=Ia ((HO.out.grow ((Aw.refl _).alloc (.cells #[.func (.yield l) #[] #[]] 165))).1);gi_wp2_with (refine ⟨trivial,?_⟩;gi_at_call 76;refine (CH.out _ ((Aw.refl _).alloc _)).mono ?_;rintro e w1 ⟨rfl,hg1⟩;have hg:=((Aw.refl W).alloc (.cells #[.func (.yield l) #[] #[]] 165)).trans hg1;have hY1:=(show Ei (W.alloc (.cells #[.func (.yield l) #[] #[]] 165)) W.heap.size 165 [.func (.yield l) #[] #[]] from heap_alloc_new W _).grow hg1;have hg3:=hg.alloc (.cells #[.int .i64 0] 3);clear q0 q1 q2 q3 q4 q5 q6 q7 q8;obtain ⟨q0,q1,q2,q3,q4,q5,q6,q7,q8⟩:=Ia (HO.out.grow hg3).1);have hsz1:W.heap.size<w1.heap.size:=by have:=hg1.size;simp at this;omega
  have st0:Hc J W.heap.size W.heap.size w1.heap.size l (Cf s.su 0) (Aj (s.su.take 0)) (w1.alloc (.cells #[.int .i64 0] 3)) (w1.alloc (.cells #[.int .i64 0] 3)) :=
   ⟨H0.out _ _ hg3 (by omega) (by simp),heap_alloc_new w1 _,hY1.grow ((Aw.refl _).alloc _),Nat.le_refl _,hsz1,Nat.le_refl _,by simp⟩
  have HG3:=BP hg3;clear hg hg1 hY1 q0 q1 q2 q3 q4 q5 q6 q7 q8;generalize w1.alloc (.cells #[.int .i64 0] 3)=w2 at *;generalize w1.heap.size=A at *;have HST:=BP st0;have hAW:W.heap.size<A:=hsz1;clear st0 hg3 hsz1;gi_loopw [16] (fun i wr=>∃k:Nat,k≤s.su.length∧i= .int .i64 (k:Int)∧Hc J W.heap.size W.heap.size A l (Cf s.su k) (Aj (s.su.take k)) w2 wr) (fun i _=>s.su.length-(intOf i).toNat);case atStart=>exact ⟨0,Nat.zero_le _,rfl,HST.out⟩
  case round =>
   obtain ⟨k,hk,rfl,hst⟩:=hrel;have hst' :=BP hst;have hsa:=HR.out _ _ _ hst.1;have hb:=HP.out k;rw [List.length_take,Nat.min_eq_left hk] at hb;clear hst;by_cases hlt:k<s.su.length
   ·obtain ⟨ad,rfl,_,hx⟩:∃ad,A0=some ad∧ad.block<wr.heap.size∧wr.cell? (ad.add k)=some (.int .i64 s.su[k]):=by
     obtain ⟨_,_,e,_,_,rr⟩:=hsa.2.1;injection e with e1 _ _
     subst e1;exact rr.int hlt
    have hz:=HS.out s.su[k] (List.getElem_mem hlt);obtain ⟨n1,hn1⟩:=Int.eq_ofNat_of_zero_le (show 0≤s.su[k] by omega);rw [hn1] at hx hz;have HE1:=BP (show Cf s.su (k+1)=Cf s.su k++DW (Aj (s.su.take k)) (k:Int) n1 by
     rw [Cf,show s.su.getD k 0=(n1:Int) by simp [List.getD,hlt,hn1],Int.toNat_natCast])
    have HE2:=BP (show Aj (s.su.take (k+1))=Aj (s.su.take k)+(n1:Int) by rw [Fi s.su hlt,hn1]);have RR:=BP (ROW.out W.heap.size A (k:Int) (Aj (s.su.take k)) n1 (Cf s.su k) wr (by
     rw [←HE1.out,HE.out]
     exact (Nw s.su (by omega)).trans (EB s (k:=0) (by omega))) ⟨hst'.out.1,hst'.out.2.1,hst'.out.2.2.1,hst'.out.2.2.2.1,hst'.out.2.2.2.2.1,Nat.le_refl _,by have:=hst'.out.2.2.2.2.2;omega⟩ (by omega) (by omega))
    have i0:(0:Int)≤(k:Int):=by omega
    have i1:(k:Int)<(s.su.length:Int):=by omega
    clear hn1 hsa hz hb;gi_wp2_with (refine ⟨trivial,?_⟩;gi_at_call 167;refine RR.out.mono ?_;rintro e w4 (⟨rfl,hs4⟩ | ⟨rfl,hx4⟩))
    ·have NEW:=BP (show Hc J W.heap.size W.heap.size A l (Cf s.su (k+1)) (Aj (s.su.take (k+1))) w2 w4 by
      have h:=hs4
      rw [←HE1.out,←HE2.out] at h
      exact ⟨h.1,h.2.1,h.2.2.1,h.2.2.2.1,h.2.2.2.2.1,Nat.le_trans hst'.out.2.2.2.2.2.1 h.2.2.2.2.2.1,hst'.out.2.2.2.2.2.2⟩)
     clear hs4;gi_wp2;exact ⟨⟨k+1,by omega,by go_num,NEW.out⟩,by simp only [intOf];omega⟩
    ·have RES:=BP (show HQ J Jx (D7 s) W (.returned (.tuple #[])) w4 from ⟨⟨_,rfl⟩,A,Nat.le_of_lt hAW, .inr hx4⟩);clear hx4;gi_wp2;refine bodyPost_ret (results_none rfl _ _ _) rfl ?_;exact RES.out
   ·obtain rfl:k=s.su.length:=by omega
    have hst2:=hst'.out;rw [List.take_length] at hst2 hb;have HS0:=BP (show Hc J W.heap.size W.heap.size A l (Ao s 0) (F9 s 0) w2 wr from hst2);obtain ⟨q0,q1,q2,q3,q4,q5,q6,q7,q8⟩:=Ia hsa.1;clear hst2 hsa hst';obtain ⟨wo,rfl⟩:∃wo:World,wo=wr:=⟨_,rfl⟩;gi_wp2;clear q0 q1 q2 q3 q4 q5 q6 q7 q8;gi_loopw [34] (fun i wr=>∃k:Nat,k≤3∧i= .int .i64 (k:Int)∧Hc J W.heap.size W.heap.size A l (Ao s k) (F9 s k) w2 wr) (fun i _=>3-(intOf i).toNat);case atStart=>exact ⟨0,by omega,rfl,HS0.out⟩
    case round =>
     obtain ⟨k,hk,rfl,hst⟩:=hrel;have hst' :=BP hst;clear hst;rcases (show k=0∨k=1∨k=2∨k=3 by omega) with rfl | rfl | rfl | rfl
     ·have ix:∀w,(Instr.index 167 (.agg #[.int .i64 s.wi, .int .i64 s.dr, .int .i64 s.fl]) (.int .i64 0)).run Tryz.prog w= .ok (.int .i64 s.wi) w:=fun _=>by kernel_rfl
      obtain ⟨n1,hn1⟩:=Int.eq_ofNat_of_zero_le (show 0≤s.wi by omega);have RR:=BP (ROW.out W.heap.size A (-1) (Aj s.su) n1 (Ao s 0) wr (by
       rw [show Ao s 0++DW (Aj s.su) (-1) n1=Ao s 1 by rw [←Int.toNat_natCast n1,←hn1];rfl,HE.out]
       exact EB s (by omega)) ⟨hst'.out.1,hst'.out.2.1,hst'.out.2.2.1,hst'.out.2.2.2.1,hst'.out.2.2.2.2.1,Nat.le_refl _,by have:=hst'.out.2.2.2.2.2;omega⟩ (by omega) (by omega))
      have HE1:=BP (show Ao s 0++DW (Aj s.su) (-1) n1=Ao s 1 by rw [←Int.toNat_natCast n1,←hn1];rfl);have HE2:=BP (show (Aj s.su)+(n1:Int)=F9 s 1 by rw [←hn1];rfl);rw [hn1] at ix;have HN:=BP hn1;rw [←hn1] at ix;have RR' :=RR.out;rw [←hn1] at RR';have RR2:=BP RR';clear hn1 RR RR';gi_wp2_with (refine ⟨trivial,?_⟩;gi_at_call 167;refine RR2.out.mono ?_;rintro e w4 (⟨rfl,hs4⟩ | ⟨rfl,hx4⟩))
      ·have NEW:=BP (show Hc J W.heap.size W.heap.size A l (Ao s 1) (F9 s 1) w2 w4 by
        have h:=hs4
        rw [HN.out,HE1.out,HE2.out] at h
        exact ⟨h.1,h.2.1,h.2.2.1,h.2.2.2.1,h.2.2.2.2.1,Nat.le_trans hst'.out.2.2.2.2.2.1 h.2.2.2.2.2.1,hst'.out.2.2.2.2.2.2⟩)
       clear hs4;gi_wp2;exact ⟨⟨1,by omega,by go_num,NEW.out⟩,by simp only [intOf];omega⟩
      ·have RES:=BP (show HQ J Jx (D7 s) W (.returned (.tuple #[])) w4 from ⟨⟨_,rfl⟩,A,Nat.le_of_lt hAW, .inr hx4⟩);clear hx4;gi_wp2;refine bodyPost_ret (results_none rfl _ _ _) rfl ?_;exact RES.out
     ·have ix:∀w,(Instr.index 167 (.agg #[.int .i64 s.wi, .int .i64 s.dr, .int .i64 s.fl]) (.int .i64 1)).run Tryz.prog w= .ok (.int .i64 s.dr) w:=fun _=>by kernel_rfl
      obtain ⟨n1,hn1⟩:=Int.eq_ofNat_of_zero_le (show 0≤s.dr by omega);have RR:=BP (ROW.out W.heap.size A (-2) (Aj s.su+s.wi) n1 (Ao s 1) wr (by
       rw [show Ao s 1++DW (Aj s.su+s.wi) (-2) n1=Ao s 2 by rw [←Int.toNat_natCast n1,←hn1];rfl,HE.out]
       exact EB s (by omega)) ⟨hst'.out.1,hst'.out.2.1,hst'.out.2.2.1,hst'.out.2.2.2.1,hst'.out.2.2.2.2.1,Nat.le_refl _,by have:=hst'.out.2.2.2.2.2;omega⟩ (by omega) (by omega))
      have HE1:=BP (show Ao s 1++DW (Aj s.su+s.wi) (-2) n1=Ao s 2 by rw [←Int.toNat_natCast n1,←hn1];rfl);have HE2:=BP (show (Aj s.su+s.wi)+(n1:Int)=F9 s 2 by rw [←hn1];rfl);rw [hn1] at ix;have HN:=BP hn1;rw [←hn1] at ix;have RR' :=RR.out;rw [←hn1] at RR';have RR2:=BP RR';clear hn1 RR RR';gi_wp2_with (refine ⟨trivial,?_⟩;gi_at_call 167;refine RR2.out.mono ?_;rintro e w4 (⟨rfl,hs4⟩ | ⟨rfl,hx4⟩))
      ·have NEW:=BP (show Hc J W.heap.size W.heap.size A l (Ao s 2) (F9 s 2) w2 w4 by
        have h:=hs4
        rw [HN.out,HE1.out,HE2.out] at h
        exact ⟨h.1,h.2.1,h.2.2.1,h.2.2.2.1,h.2.2.2.2.1,Nat.le_trans hst'.out.2.2.2.2.2.1 h.2.2.2.2.2.1,hst'.out.2.2.2.2.2.2⟩)
       clear hs4;gi_wp2;exact ⟨⟨2,by omega,by go_num,NEW.out⟩,by simp only [intOf];omega⟩
      ·have RES:=BP (show HQ J Jx (D7 s) W (.returned (.tuple #[])) w4 from ⟨⟨_,rfl⟩,A,Nat.le_of_lt hAW, .inr hx4⟩);clear hx4;gi_wp2;refine bodyPost_ret (results_none rfl _ _ _) rfl ?_;exact RES.out
     ·have ix:∀w,(Instr.index 167 (.agg #[.int .i64 s.wi, .int .i64 s.dr, .int .i64 s.fl]) (.int .i64 2)).run Tryz.prog w= .ok (.int .i64 s.fl) w:=fun _=>by kernel_rfl
      obtain ⟨n1,hn1⟩:=Int.eq_ofNat_of_zero_le (show 0≤s.fl by omega);have RR:=BP (ROW.out W.heap.size A (-3) (Aj s.su+s.wi+s.dr) n1 (Ao s 2) wr (by
       rw [show Ao s 2++DW (Aj s.su+s.wi+s.dr) (-3) n1=Ao s 3 by rw [←Int.toNat_natCast n1,←hn1];rfl,HE.out]
       exact EB s (by omega)) ⟨hst'.out.1,hst'.out.2.1,hst'.out.2.2.1,hst'.out.2.2.2.1,hst'.out.2.2.2.2.1,Nat.le_refl _,by have:=hst'.out.2.2.2.2.2;omega⟩ (by omega) (by omega))
      have HE1:=BP (show Ao s 2++DW (Aj s.su+s.wi+s.dr) (-3) n1=Ao s 3 by rw [←Int.toNat_natCast n1,←hn1];rfl);have HE2:=BP (show (Aj s.su+s.wi+s.dr)+(n1:Int)=F9 s 3 by rw [←hn1];rfl);rw [hn1] at ix;have HN:=BP hn1;rw [←hn1] at ix;have RR' :=RR.out;rw [←hn1] at RR';have RR2:=BP RR';clear hn1 RR RR';gi_wp2_with (refine ⟨trivial,?_⟩;gi_at_call 167;refine RR2.out.mono ?_;rintro e w4 (⟨rfl,hs4⟩ | ⟨rfl,hx4⟩))
      ·have NEW:=BP (show Hc J W.heap.size W.heap.size A l (Ao s 3) (F9 s 3) w2 w4 by
        have h:=hs4
        rw [HN.out,HE1.out,HE2.out] at h
        exact ⟨h.1,h.2.1,h.2.2.1,h.2.2.2.1,h.2.2.2.2.1,Nat.le_trans hst'.out.2.2.2.2.2.1 h.2.2.2.2.2.1,hst'.out.2.2.2.2.2.2⟩)
       clear hs4;gi_wp2;exact ⟨⟨3,by omega,by go_num,NEW.out⟩,by simp only [intOf];omega⟩
      ·have RES:=BP (show HQ J Jx (D7 s) W (.returned (.tuple #[])) w4 from ⟨⟨_,rfl⟩,A,Nat.le_of_lt hAW, .inr hx4⟩);clear hx4;gi_wp2;refine bodyPost_ret (results_none rfl _ _ _) rfl ?_;exact RES.out
     ·have RES:=BP (show HQ J Jx (D7 s) W (.returned (.tuple #[])) wr from ⟨⟨_,rfl⟩,A,Nat.le_of_lt hAW, .inl (by rw [HE.out];exact hst'.out.1)⟩);gi_wp2;first | (refine bodyPost_ret (results_none rfl _ _ _) rfl ?_) | go_end0
      exact RES.out
 ·have hne:(AP s != 0)=true:=by simp [e]
  have HE:=BP (Ji e);clear e;generalize AP s=n at *;refine callsIn_of_wp Tryz.func166 rfl trivial ?_ rfl;simp only [Tryz.ntmps166,List.size_toArray,List.length_cons,List.length_nil,Nat.reduceAdd,Nat.reduceSub,Array.replicate_succ,Array.replicate_zero,List.push_toArray,List.append_toArray,List.nil_append,List.cons_append];obtain ⟨q0,q1,q2,q3,q4,q5,q6,q7,q8⟩:=Ia ((HO.out.grow ((Aw.refl _).alloc (.cells #[.func (.yield l) #[] #[]] 165))).1);gi_wp2_with (refine ⟨trivial,?_⟩;gi_at_call 76;refine (CH.out _ ((Aw.refl _).alloc _)).mono ?_;rintro e w1 ⟨rfl,hg1⟩;have hg:=((Aw.refl W).alloc (.cells #[.func (.yield l) #[] #[]] 165)).trans hg1);have RES:=BP (show HQ J Jx (D7 s) W (.returned (.tuple #[])) w1 from ⟨⟨_,rfl⟩,W.heap.size,Nat.le_refl _, .inl (by rw [HE.out];exact H0.out _ _ hg (Nat.le_refl _) (by have:=hg1.size;simp at this;omega))⟩);first | (refine bodyPost_ret (results_none rfl _ _ _) rfl ?_) | go_end0
  exact RES.out
end Go.Proofs.YthblfhgofopcaaaGreat
