/-
  Parts of the proof: JobA, SortLay, SortV.
-/
import Derived.Test.YthblfhgofopcaaaGreatSH13
import Derived.Test.YthblfhgofopcaaaGreatSH14
import Derived.Test.YthblfhgofopcaaaGreatFO01
import Derived.Test.YthblfhgofopcaaaGreatSH20
import Derived.Test.YthblfhgofopcaaaGreatSH19
import Derived.Ground.SlsfProg
import Derived.Shelf.SlSortCmp.WholeK
import Derived.Shelf.SlSortCmp.Whole1
import Derived.Test.YthblfhgofopcaaaGreatProg
set_option linter.all false
namespace Go.Proofs.YthblfhgofopcaaaGreat
open Go.RowKit
set_option maxRecDepth 100000
set_option maxHeartbeats 2000000
def Ar (s:AL) (f:Fm) (h:Hd):AV:= .agg [I s.pl,AN false s.su,I s.wi,I s.dr,I s.fl,I s.co,I s.me,I s.de,AN false s.re,I f.wh,AN false f.ks,B f.ag,AN false h.bag,AX false h.me]
end Go.Proofs.YthblfhgofopcaaaGreat

namespace Go.Proofs
open Go.Shelf
def Tryz.laysSortG_ren:Go.Shelf.Ren:=⟨fun|6=>177|15=>180|14=>188|28=>197|29=>198|20=>200|21=>201|22=>202|23=>203|24=>204|25=>205|26=>206|27=>207|46=>213|47=>209|48=>210|49=>214|50=>215|57=>217|n=>n,fun|22=>29|24=>72|25=>182|3=>3|39=>116|0=>0|53=>176|55=>113|4=>4|46=>190|45=>189|50=>170|5=>5|9=>9|66=>202|70=>206|76=>210|77=>130|n=>n,fun|n=>n⟩
theorem Tryz.laysSortG:Go.Proofs.SlLaysF0.n6 Tryz.prog Tryz.laysSortG_ren:={
 mixed:=by kernel_rfl
 f6:=⟨Tryz.f177.name,by decide,Tryz.func177.trans (congrArg some (by kernel_rfl))⟩
 f14:=⟨Tryz.f188.name,by decide,Tryz.func188.trans (congrArg some (by kernel_rfl))⟩
 f15:=Tryz.func180.trans (congrArg some (by kernel_rfl))
 f20:=⟨Tryz.f200.name,by decide,Tryz.func200.trans (congrArg some (by kernel_rfl))⟩
 f21:=⟨Tryz.f201.name,by decide,Tryz.func201.trans (congrArg some (by kernel_rfl))⟩
 f22:=⟨Tryz.f202.name,by decide,Tryz.func202.trans (congrArg some (by kernel_rfl))⟩
 f23:=⟨Tryz.f203.name,by decide,Tryz.func203.trans (congrArg some (by kernel_rfl))⟩
 f24:=⟨Tryz.f204.name,by decide,Tryz.func204.trans (congrArg some (by kernel_rfl))⟩
 f25:=⟨Tryz.f205.name,by decide,Tryz.func205.trans (congrArg some (by kernel_rfl))⟩
 f26:=⟨Tryz.f206.name,by decide,Tryz.func206.trans (congrArg some (by kernel_rfl))⟩
 f27:=⟨Tryz.f207.name,by decide,Tryz.func207.trans (congrArg some (by kernel_rfl))⟩
 f28:=Tryz.func197.trans (congrArg some (by kernel_rfl))
 f29:=Tryz.func198.trans (congrArg some (by kernel_rfl))
 f46:=⟨Tryz.f213.name,by decide,Tryz.func213.trans (congrArg some (by kernel_rfl))⟩
 f47:=Tryz.func209.trans (congrArg some (by kernel_rfl))
 f48:=Tryz.func210.trans (congrArg some (by kernel_rfl))
 f49:=⟨Tryz.f214.name,by decide,Tryz.func214.trans (congrArg some (by kernel_rfl))⟩
 f50:=⟨Tryz.f215.name,by decide,Tryz.func215.trans (congrArg some (by kernel_rfl))⟩
 f57:=⟨Tryz.f217.name,by decide,Tryz.func217.trans (congrArg some (by kernel_rfl))⟩
 t0:=Tryz.underlying0
 a0:=Tryz.isAgg0
 z0:=Tryz.sizeOf0
 v0:=Tryz.zeroValue0
 t3:=Tryz.underlying3
 a3:=Tryz.isAgg3
 z3:=Tryz.sizeOf3
 v3:=Tryz.zeroValue3
 t4:=Tryz.underlying4
 a4:=Tryz.isAgg4
 z4:=Tryz.sizeOf4
 v4:=Tryz.zeroValue4
 t5:=Tryz.underlying5
 a5:=Tryz.isAgg5
 z5:=Tryz.sizeOf5
 v5:=Tryz.zeroValue5
 t9:=Tryz.underlying9
 a9:=Tryz.isAgg9
 z9:=Tryz.sizeOf9
 v9:=Tryz.zeroValue9
 t22:=Tryz.underlying29
 a22:=Tryz.isAgg29
 z22:=Tryz.sizeOf29
 v22:=Tryz.zeroValue29
 t25:=Tryz.underlying182
 a25:=Tryz.isAgg182
 z25:=Tryz.sizeOf182
 v25:=Tryz.zeroValue182
 t39:=Tryz.underlying116
 a39:=Tryz.isAgg116
 z39:=Tryz.sizeOf116
 v39:=Tryz.zeroValue116
 t45:=Tryz.underlying189
 a45:=Tryz.isAgg189
 z45:=Tryz.sizeOf189
 v45:=Tryz.zeroValue189
 t46:=Tryz.underlying190
 a46:=Tryz.isAgg190
 z46:=Tryz.sizeOf190
 v46:=Tryz.zeroValue190
 t50:=Tryz.underlying170
 a50:=Tryz.isAgg170
 z50:=Tryz.sizeOf170
 v50:=Tryz.zeroValue170
 t53:=Tryz.underlying176
 a53:=Tryz.isAgg176
 z53:=Tryz.sizeOf176
 v53:=Tryz.zeroValue176
 t55:=Tryz.underlying113
 a55:=Tryz.isAgg113
 z55:=Tryz.sizeOf113
 v55:=Tryz.zeroValue113
 t66:=Tryz.underlying202
 a66:=Tryz.isAgg202
 z66:=Tryz.sizeOf202
 v66:=Tryz.zeroValue202
 t70:=Tryz.underlying206
 a70:=Tryz.isAgg206
 z70:=Tryz.sizeOf206
 v70:=Tryz.zeroValue206
 t76:=Tryz.underlying210
 a76:=Tryz.isAgg210
 z76:=Tryz.sizeOf210
 v76:=Tryz.zeroValue210
 t77:=Tryz.underlying130
 a77:=Tryz.isAgg130
 z77:=Tryz.sizeOf130
 v77:=Tryz.zeroValue130 }
def Tryz.laysSortL_ren:Go.Shelf.Ren:=⟨fun|6=>161|15=>180|14=>179|28=>197|29=>198|20=>189|21=>190|22=>191|23=>192|24=>193|25=>194|26=>195|27=>196|46=>208|47=>209|48=>210|49=>211|50=>212|57=>216|n=>n,fun|22=>84|24=>29|25=>110|3=>3|39=>116|0=>0|53=>176|55=>113|4=>4|46=>190|45=>189|50=>170|5=>5|9=>9|66=>202|70=>206|76=>210|77=>130|n=>n,fun|n=>n⟩
theorem Tryz.laysSortL:Go.Proofs.SlLaysF.n6 Tryz.prog Tryz.laysSortL_ren:={
 mixed:=by kernel_rfl
 f6:=⟨Tryz.f161.name,by decide,Tryz.func161.trans (congrArg some (by kernel_rfl))⟩
 f14:=⟨Tryz.f179.name,by decide,Tryz.func179.trans (congrArg some (by kernel_rfl))⟩
 f15:=Tryz.func180.trans (congrArg some (by kernel_rfl))
 f20:=⟨Tryz.f189.name,by decide,Tryz.func189.trans (congrArg some (by kernel_rfl))⟩
 f21:=⟨Tryz.f190.name,by decide,Tryz.func190.trans (congrArg some (by kernel_rfl))⟩
 f22:=⟨Tryz.f191.name,by decide,Tryz.func191.trans (congrArg some (by kernel_rfl))⟩
 f23:=⟨Tryz.f192.name,by decide,Tryz.func192.trans (congrArg some (by kernel_rfl))⟩
 f24:=⟨Tryz.f193.name,by decide,Tryz.func193.trans (congrArg some (by kernel_rfl))⟩
 f25:=⟨Tryz.f194.name,by decide,Tryz.func194.trans (congrArg some (by kernel_rfl))⟩
 f26:=⟨Tryz.f195.name,by decide,Tryz.func195.trans (congrArg some (by kernel_rfl))⟩
 f27:=⟨Tryz.f196.name,by decide,Tryz.func196.trans (congrArg some (by kernel_rfl))⟩
 f28:=Tryz.func197.trans (congrArg some (by kernel_rfl))
 f29:=Tryz.func198.trans (congrArg some (by kernel_rfl))
 f46:=⟨Tryz.f208.name,by decide,Tryz.func208.trans (congrArg some (by kernel_rfl))⟩
 f47:=Tryz.func209.trans (congrArg some (by kernel_rfl))
 f48:=Tryz.func210.trans (congrArg some (by kernel_rfl))
 f49:=⟨Tryz.f211.name,by decide,Tryz.func211.trans (congrArg some (by kernel_rfl))⟩
 f50:=⟨Tryz.f212.name,by decide,Tryz.func212.trans (congrArg some (by kernel_rfl))⟩
 f57:=⟨Tryz.f216.name,by decide,Tryz.func216.trans (congrArg some (by kernel_rfl))⟩
 t0:=Tryz.underlying0
 a0:=Tryz.isAgg0
 z0:=Tryz.sizeOf0
 v0:=Tryz.zeroValue0
 t3:=Tryz.underlying3
 a3:=Tryz.isAgg3
 z3:=Tryz.sizeOf3
 v3:=Tryz.zeroValue3
 t4:=Tryz.underlying4
 a4:=Tryz.isAgg4
 z4:=Tryz.sizeOf4
 v4:=Tryz.zeroValue4
 t5:=Tryz.underlying5
 a5:=Tryz.isAgg5
 z5:=Tryz.sizeOf5
 v5:=Tryz.zeroValue5
 t9:=Tryz.underlying9
 a9:=Tryz.isAgg9
 z9:=Tryz.sizeOf9
 v9:=Tryz.zeroValue9
 t22:=Tryz.underlying84
 a22:=Tryz.isAgg84
 z22:=Tryz.sizeOf84
 v22:=Tryz.zeroValue84
 a24:=Tryz.isAgg29
 z24:=Tryz.sizeOf29
 t25:=Tryz.underlying110
 a25:=Tryz.isAgg110
 z25:=Tryz.sizeOf110
 v25:=Tryz.zeroValue110
 t39:=Tryz.underlying116
 a39:=Tryz.isAgg116
 z39:=Tryz.sizeOf116
 v39:=Tryz.zeroValue116
 t45:=Tryz.underlying189
 a45:=Tryz.isAgg189
 z45:=Tryz.sizeOf189
 v45:=Tryz.zeroValue189
 t46:=Tryz.underlying190
 a46:=Tryz.isAgg190
 z46:=Tryz.sizeOf190
 v46:=Tryz.zeroValue190
 t50:=Tryz.underlying170
 a50:=Tryz.isAgg170
 z50:=Tryz.sizeOf170
 v50:=Tryz.zeroValue170
 t53:=Tryz.underlying176
 a53:=Tryz.isAgg176
 z53:=Tryz.sizeOf176
 v53:=Tryz.zeroValue176
 t55:=Tryz.underlying113
 a55:=Tryz.isAgg113
 z55:=Tryz.sizeOf113
 v55:=Tryz.zeroValue113
 t66:=Tryz.underlying202
 a66:=Tryz.isAgg202
 z66:=Tryz.sizeOf202
 v66:=Tryz.zeroValue202
 t70:=Tryz.underlying206
 a70:=Tryz.isAgg206
 z70:=Tryz.sizeOf206
 v70:=Tryz.zeroValue206
 t76:=Tryz.underlying210
 a76:=Tryz.isAgg210
 z76:=Tryz.sizeOf210
 v76:=Tryz.zeroValue210
 t77:=Tryz.underlying130
 a77:=Tryz.isAgg130
 z77:=Tryz.sizeOf130
 v77:=Tryz.zeroValue130 }
end Go.Proofs

namespace Go.Proofs.YthblfhgofopcaaaGreat
open Go.RowKit Go.Sort Go.Shelf
theorem Nt {α:Type} [Inhabited α] (enc:α→Value) (w:World) (blk off:Nat) (d:Array α):putRow enc w blk off d=putRow id w blk off (d.map enc):=by
 unfold putRow;congr 1;funext c;unfold putCells;apply Array.ext
 ·simp
 ·intro i h1 h2;simp only [Array.getElem_mapIdx,Array.size_map,id];split
  ·rename_i h;have:i-off<d.size:=by omega
   rw [getElem!_pos d _ this,getElem!_pos (d.map enc) _ (by simpa using this)];simp
  ·rfl
section
variable [DM] {c:Cx} {h:HF}
theorem JO (hh:BH c h) {r g k:Nat} {es es' :List AV} (hr:h r= .arr g k es) (hl:c.rl r=true) {F:Array Value} (hF:F.size=es.length*k) (hlen:es'.length=es.length) (hz:∀(i:Nat) (e:AV),es'[i]? =some e→e.cs.length=k)
  (hrel:∀(i:Nat) (e:AV) (j:Nat) (x:AV),es'[i]? =some e→e.cs[j]? =some x→∃y,F[i*k+j]? =some y∧AS c h x y) (m:Nat) (os:Array Obj) :
  ∃c' :Cx,c'.w=grow (putRow id (Sort.ahead c.w m) (c.bl r) 0 F) os∧Bj c h c' (Bc [(r, .arr g k es')] h)∧BH c' (Bc [(r, .arr g k es')] h)∧c'.n0=c.n0:=by
 obtain ⟨cs,ty,a1,a2,a3,a4⟩:=hh.ar r g k es hr hl;have hb:c.bl r<c.w.heap.size:=by
  rcases Nat.lt_or_ge (c.bl r) c.w.heap.size with h|h
  ·exact h
  ·rw [Array.getElem?_eq_none h] at a1;cases a1
 have G:Aw c.w (grow (Sort.ahead c.w m) os):=⟨rfl,rfl,rfl,by simp [grow,Sort.ahead],fun b hb' =>by simp [grow,Sort.ahead,Array.getElem?_append,hb']⟩;have hd:DM.lax=true∨c.w.drawn≤(grow (Sort.ahead c.w m) os).drawn:= .inr (by simp [grow,Sort.ahead]);have K1:=Bj.grow (h:=h) G hd;have H1:=hh.keep_grow G hd;have e0:(grow (Sort.ahead c.w m) os).heap[c.bl r]? =some (.cells cs ty (0,0)):=(G.blk hb).trans a1;have hpc:(putCells id 0 F cs).size=cs.size:=by simp [putCells]
 have hget:∀t,t<F.size→(putCells id 0 F cs)[t]? =F[t]? :=fun t ht=>by
  have h1:t<cs.size:=by omega
  rw [Array.getElem?_eq_getElem (by rw [hpc];exact h1),Array.getElem?_eq_getElem ht];simp [putCells,ht,getElem!_pos F t ht]
 have hw:∀b,b≠c.bl r→(putRow id (grow (Sort.ahead c.w m) os) (c.bl r) 0 F).heap[b]? =(grow (Sort.ahead c.w m) os).heap[b]? :=fun b hb' =>by
  simp [putRow,mapBlock,Array.getElem?_modify,Ne.symm hb']
 have hw2:(putRow id (grow (Sort.ahead c.w m) os) (c.bl r) 0 F).heap[c.bl r]? =some (.cells (putCells id 0 F cs) ty (0,0)):=by
  simp only [putRow,mapBlock,Array.getElem?_modify,if_true,e0,Option.map_some,onCells]
 obtain ⟨K2,H2,_⟩:=E6 H1 (g' :=g) (es' :=es') (cs' :=putCells id 0 F cs) hr hl e0 hpc (Nat.le_refl _) (by rw [hpc,hlen];exact a2) hz (fun i e j x he hj=>by
   obtain ⟨y,hy,hv⟩:=hrel i e j x he hj
   refine ⟨y,?_,hv.ext K1.ext⟩
   rw [hget _ (Array.getElem?_eq_some_iff.1 hy).1];exact hy) (putRow id (grow (Sort.ahead c.w m) os) (c.bl r) 0 F) hw hw2 rfl rfl rfl (by simp [putRow,mapBlock]) rfl
 exact ⟨_,putRow_grow id (Sort.ahead c.w m) os (c.bl r) 0 F hb,K1.trans K2,H2,rfl⟩
end
@[reducible] def EV:DM:=⟨false⟩
theorem J1 {c c' :Cx} {h' :HF} (k: @Bj EV c (fun _=> .nil) c' h'):∃q os,c'.w=grow (c.w.drewN q) os:=by
 have hd:c.w.drawn≤c'.w.drawn:=by
  rcases @Bj.dr EV _ _ _ _ k with h|h
  ·cases h
  ·exact h
 refine ⟨c'.w.drawn-c.w.drawn,c'.w.heap.extract c.w.heap.size c'.w.heap.size,?_⟩;have hb:=fun b hb=> @Bj.blk EV _ _ _ _ k b hb (by rintro ⟨r,g,sz,es,hr,_⟩;cases hr)
 have hs:= @Bj.size EV _ _ _ _ k;have hheap:c'.w.heap=c.w.heap++c'.w.heap.extract c.w.heap.size c'.w.heap.size:=by
  apply Array.ext_getElem?;intro i;by_cases hi:i<c.w.heap.size
  ·rw [Array.getElem?_append_left hi];exact hb i hi
  ·rw [Array.getElem?_append_right (by omega)];by_cases h2:i<c'.w.heap.size
   ·rw [Array.getElem?_eq_getElem h2,Array.getElem?_eq_getElem (by simp;omega)];simp;congr 1;omega
   ·rw [Array.getElem?_eq_none (by omega),Array.getElem?_eq_none (by simp;omega)]
 have e1:= @Bj.os EV _ _ _ _ k;have e2:= @Bj.tape EV _ _ _ _ k;have e3:= @Bj.output EV _ _ _ _ k;clear k;generalize c'.w.heap.extract c.w.heap.size c'.w.heap.size=os at *;cases hw' :c'.w with
 | mk heap tape drawn os' output =>
  rw [hw'] at hheap e1 e2 e3 hd;simp only [grow,World.drewN] at *;subst e1 e2 e3;congr 1;omega
theorem Ru (c:Cx) [DM]:BH c (fun _=> .nil):=⟨(fun r g sz es hr=>by cases hr),(fun r g sz es hr=>by cases hr),(fun r r1 g g1 sz sz1 es es1 hr=>by cases hr)⟩
instance:Inhabited Gp:=⟨⟨0,0,false⟩⟩
def Ho (x:Gp):List Value:=[.int .i64 x.wh, .int .i64 x.kd, .bool x.op]
theorem Ry {c:Cx} {h:HF} (x:Gp):AS c h (AZ x) (.agg (Ho x).toArray):= .agg _ _ rfl fun i u v hu hv=>by
 match i with
 | 0=>simp [Ho] at hu hv;subst hu hv;exact .v _
 | 1=>simp [Ho] at hu hv;subst hu hv;exact .v _
 | 2=>simp [Ho] at hu hv;subst hu hv;exact .v _
 | i+3=>simp at hu
theorem Z2 {c:Cx} {h:HF} {x:Gp} {j:Nat} {u:AV} {y:Value} (hu:(AZ x).cs[j]? =some u) (k:AS c h u y):(Ho x)[j]? =some y:=by
 match j with
 | 0=>simp [AZ,AV.cs] at hu;subst hu;rw [As k];rfl
 | 1=>simp [AZ,AV.cs] at hu;subst hu;rw [As k];rfl
 | 2=>simp [AZ,AV.cs] at hu;subst hu;rw [As k];rfl
 | j+3=>simp [AZ,AV.cs] at hu
theorem kT:SWO (ltOf C6) where
 irrefl x:=by have:=O0 x;simp [ltOf,this]
 trans x y z h1 h2:=by
  simp only [ltOf,decide_eq_true_eq] at *;have:=A2 x y;have:=A2 y z;have:=A2 x z;omega
 ntrans x y z h1 h2:=by
  simp only [ltOf,decide_eq_false_iff_not] at *;have:=A2 x y;have:=A2 y z;have:=A2 x z;omega
theorem VW (g:Nat) (l:List Gp) (h0:0<l.length) (h1:l.length≤1000000):Bb Tryz.prog 177 [.rsl 0 g 0 l.length, .clo 178 []] [(0, .arr g 3 (l.map AZ))] (fun x hl=>x= .v (.tuple #[])∧∃l',l'.Perm l∧SG l' ∧hl=[(0, .arr g 3 (l'.map AZ))]):=by
 refine ⟨⟨_,_,Tryz.func177,rfl,rfl⟩,fun c vals hn hh hx=> ?_⟩;obtain ⟨v,v',rfl,k1,k2⟩:=IJ hx;have e0:lk [(0,Ob.arr g 3 (l.map AZ))] .nil 0= .arr g 3 (l.map AZ):=rfl;have hsl:aG c 0 0 l.length v 3:=by
  cases k1 with
  | rsl _ _ _ _ _ _ hg=>rw [e0] at hg;exact hg.2 rfl
 have hclo:v' = .func (.func 178) #[] #[]:=by
  cases k2 with
  | clo _ _ ys hl _ =>
   have:ys= #[]:=Array.eq_empty_of_size_eq_zero (by simpa using hl.symm);rw [this]
 obtain ⟨A,cap,rfl,hcap,hmax,hpos⟩:=hsl;obtain ⟨hrl,rfl,cs,ty,hcell,hsz⟩:=hpos (by omega);subst hclo;obtain ⟨cs',ty',a1,a2,a3,a4⟩:=hh.ar 0 g 3 _ e0 hrl;rw [hcell] at a1;injection a1 with a1
 injection a1 with a1 a1'
 subst a1 a1';have hb:c.bl 0<c.w.heap.size:=by
  rcases Nat.lt_or_ge (c.bl 0) c.w.heap.size with h|h
  ·exact h
  ·rw [Array.getElem?_eq_none h] at hcell;cases hcell
 have hsize:l.toArray.size=l.length:=by simp
 have fsz:∀d:Array Gp,(flatK Ho 3 d).size=d.size*3:=fun d=>by simp [flatK]
 have hH:HoldsK Ho 3 c.w (c.bl 0) 0 l.toArray:=by
  intro j hj;rw [fsz,hsize] at hj;have hq:j / 3<l.length:=by omega
  have hget:=get_flatK Ho 3 l.toArray j (by rw [hsize];exact hj);rw [getElem!_pos l.toArray (j / 3) (by simpa using hq)] at hget;simp only [List.getElem_toArray] at hget;have hcs:∃u,(AZ l[j / 3]).cs[j % 3]? =some u:=⟨_,List.getElem?_eq_getElem (by simp [AZ,AV.cs];omega)⟩;obtain ⟨u,hu⟩:=hcs;obtain ⟨y,hy,hv⟩:=a4 (j / 3) (AZ l[j / 3]) (j % 3) u (by simp [hq]) hu;have hy2:=Z2 hu hv;have hj3:j / 3*3+j % 3=j:=by omega
  rw [hj3] at hy;constructor
  ·show c.w.cell? ⟨c.bl 0,0+j,none⟩=some (id _);rw [Nat.zero_add,id,hget];simp only [World.cell?,hcell];rw [hy];simp [List.getElem!_eq_getElem?_getD,hy2]
  ·simp [World.frozen?,hcell]
 have hcmp:CmpLays Tryz.prog 178 #[] Ho 3 C6 (c.bl 0) 0 l.toArray.size c.w:=by
  intro m os dk _ x y;generalize sortWorldK Ho 3 c.w (c.bl 0) 0 m dk os=W;have C:=(@N8 EV x y).2 ⟨W,fun _=>0,fun _=>false,fun _=>True,fun _=>True,W.heap.size⟩ #[.agg (Ho x).toArray, .agg (Ho y).toArray] rfl (Ru _) ⟨rfl,fun i u v hu hv=>by
   match i with
   | 0=>simp at hu hv;subst hu hv;exact Ry x
   | 1=>simp at hu hv;subst hu hv;exact Ry y
   | i+2=>simp at hu⟩
  refine C.mono ?_;rintro e w' ⟨v,x',hl',c',rfl,rfl,⟨rfl,rfl⟩,k1,_,k3⟩;obtain ⟨q,os',e⟩:=J1 k1;exact ⟨by rw [As k3],q,os',e⟩
 have S:=AnyQ.slices_SortFunc Tryz.laysSortG 3 (fun w=>by first|exact Tryz.isAgg72 w|simp) (fun w=>Tryz.sizeOf72 w) Ho (fun _=>rfl) (fun x v hv=>by simp [Ho] at hv;rcases hv with rfl|rfl|rfl<;>rfl) C6 kT 178 #[] (c.bl 0) 0 cap l.toArray c.w (enters_of Tryz.func178 (by kernel_rfl) rfl) hcmp hH hb (by rw [hsize];omega);refine Calls.mono S ?_;rintro e w' ⟨rfl,d',n,os,hp,hs,rfl⟩;obtain ⟨p1,_,p3⟩:=hp;rw [hsize] at p1 p3 hs;have l1:d'.toList.length=l.length:=by simpa using p1
 have hperm:d'.toList.Perm l:=by
  have e1:(d'.extract 0 l.length).toList=d'.toList:=by rw [←p1];simp
  have e2:(l.toArray.extract 0 l.length).toList=l:=by simp
  rwa [e1,e2] at p3
 have hsort:SG d'.toList:=by
  rw [SG,List.pairwise_iff_getElem];intro i j hi hj hij;have:=hs i j (Nat.zero_le _) hij (by omega);rw [getElem!_pos d' j (by simpa using hj),getElem!_pos d' i (by simpa using hi)] at this;simp only [ltOf,decide_eq_false_iff_not] at this;have sw:=Gt d'.toList[i] d'.toList[j];simp only [Array.getElem_toList] at *;omega
 obtain ⟨c',e1,K,H,_⟩:=JO hh e0 hrl (F:=flatK Ho 3 d') (es' :=d'.toList.map AZ) (by rw [fsz,p1,List.length_map]) (by rw [List.length_map,List.length_map,l1]) (fun i e he=>by
   rw [List.getElem?_map] at he
   cases hd:d'.toList[i]? with
   | none=>rw [hd] at he;cases he
   | some x=>rw [hd] at he;simp at he;subst he;rfl) (fun i e j x he hj=>by
   rw [List.getElem?_map] at he
   cases hd:d'.toList[i]? with
   | none=>rw [hd] at he;cases he
   | some y =>
    rw [hd] at he;simp at he;subst he
    have hi:i<d'.size:=by simpa using (List.getElem?_eq_some_iff.1 hd).1
    have hj3:j<3:=(List.getElem?_eq_some_iff.1 hj).1
    have hlt:i*3+j<(flatK Ho 3 d').size:=by rw [fsz];omega
    have hgt:=get_flatK Ho 3 d' (i*3+j) (by omega)
    rw [getElem!_pos (flatK Ho 3 d') _ hlt,show (i*3+j) / 3=i by omega,show (i*3+j) % 3=j by omega,getElem!_pos d' i hi] at hgt
    have hy:d'[i]=y:=by have:=(List.getElem?_eq_some_iff.1 hd).2;simpa using this
    rw [hy] at hgt
    refine ⟨_,Array.getElem?_eq_getElem hlt,?_⟩
    rw [hgt]
    match j with
    | 0=>simp [AZ,AV.cs] at hj;subst hj;exact .v _
    | 1=>simp [AZ,AV.cs] at hj;subst hj;exact .v _
    | 2=>simp [AZ,AV.cs] at hj;subst hj;exact .v _
    | j+3=>omega) n os
 have e2:lk [(0,Ob.arr g 3 (d'.toList.map AZ))] Ob.nil=Bc [(0,Ob.arr g 3 (d'.toList.map AZ))] (lk [(0,Ob.arr g 3 (l.map AZ))] Ob.nil):=by
  funext r;by_cases hr:r=0
  ·subst hr;rfl
  ·simp [lk,Bc,hr,Ne.symm hr]
 refine ⟨_, .v (.tuple #[]),[(0, .arr g 3 (d'.toList.map AZ))],c',rfl,e1,⟨rfl,_,hperm,hsort,rfl⟩,?_,?_, .v _⟩
 ·rw [e2];exact K
 ·rw [e2];exact H
theorem WN:SWO (ltOf BL) where
 irrefl x:=by have:=Ez x;simp [ltOf,this]
 trans x y z h1 h2:=by
  simp only [ltOf,decide_eq_true_eq] at *;have:=En (a:=x) (b:=y) (c:=z) (by omega) (by omega);omega
 ntrans x y z h1 h2:=by
  simp only [ltOf,decide_eq_false_iff_not] at *;have s1:=Dy x y;have s2:=Dy y z;have s3:=Dy x z;have:=En (a:=z) (b:=y) (c:=x) (by omega) (by omega);omega
theorem NB {α:Type} [Inhabited α] {l:List α} {d:List Nat} (h:d.Perm (List.range l.length)):(d.map fun i=>l[i]!).Perm l:=by
 have:=h.map fun i=>l[i]!
 refine this.trans ?_;have e:(List.range l.length).map (fun i=>l[i]!)=l:=by
  apply List.ext_getElem
  ·simp
  ·intro i h1 h2;simp [h2]
 rw [e]
theorem Ox (f:Bool) (g:Nat) (l:List (List Gp)) (h0:0<l.length) (h1:l.length≤1000000000) (hx1:∀x∈l,x.length≤1000000):Bb Tryz.prog 161 [.rsl 0 g 0 l.length, .clo 162 []] [(0, .arr g 1 (l.map (AX f)))] (fun x hl=>x= .v (.tuple #[])∧∃l' :List (List Gp),l'.Perm l∧(l'.Pairwise fun a b=>BL a b≤0)∧hl=[(0, .arr g 1 (l'.map (AX f)))]):=by
 refine ⟨⟨_,_,Tryz.func161,rfl,rfl⟩,fun c vals hn hh hx=> ?_⟩;obtain ⟨v,v',rfl,k1,k2⟩:=IJ hx;have e0:lk [(0,Ob.arr g 1 (l.map (AX f)))] .nil 0= .arr g 1 (l.map (AX f)):=rfl;have hsl:aG c 0 0 l.length v 1:=by
  cases k1 with
  | rsl _ _ _ _ _ _ hg=>rw [e0] at hg;exact hg.2 rfl
 have hclo:v' = .func (.func 162) #[] #[]:=by
  cases k2 with
  | clo _ _ ys hl _ =>
   have:ys= #[]:=Array.eq_empty_of_size_eq_zero (by simpa using hl.symm);rw [this]
 obtain ⟨A,cap,rfl,hcap,hmax,hpos⟩:=hsl;obtain ⟨hrl,rfl,cs,ty,hcell,hsz⟩:=hpos (by omega);subst hclo;obtain ⟨cs',ty',a1,a2,a3,a4⟩:=hh.ar 0 g 1 _ e0 hrl;rw [hcell] at a1;injection a1 with a1
 injection a1 with a1 a1'
 subst a1 a1';have hb:c.bl 0<c.w.heap.size:=by
  rcases Nat.lt_or_ge (c.bl 0) c.w.heap.size with h|h
  ·exact h
  ·rw [Array.getElem?_eq_none h] at hcell;cases hcell
 rw [List.length_map] at a2;have a5:∀i,(hi:i<l.length)→AS c (lk [(0,Ob.arr g 1 (l.map (AX f)))] .nil) (AX f l[i]) cs[i]! :=fun i hi=>by
  obtain ⟨y,hy,hv⟩:=a4 i (AX f l[i]) 0 (AX f l[i]) (by simp [hi]) rfl;rw [Nat.mul_one,Nat.add_zero] at hy;have h2:i<cs.size:=by omega
  rw [getElem!_pos cs i h2];rw [Array.getElem?_eq_getElem h2] at hy;injection hy with hy
  rw [hy];exact hv
 let n:=l.length;let enc:Nat→Value:=fun i=>cs[i % n]!
 let X:Nat→List Gp:=fun i=>l[i % n]!
 have hmod:∀i,i % n<l.length:=fun i=>Nat.mod_lt _ h0
 have hXe:∀i,X i=l[i % n]'(hmod i):=fun i=>getElem!_pos l (i % n) (hmod i)
 have a6:∀i,AS c (lk [(0,Ob.arr g 1 (l.map (AX f)))] .nil) (AX f (X i)) (enc i):=fun i=>by rw [hXe];exact a5 _ (hmod i)
 have hone:OneCell enc:=fun i=>(a6 i).oneCell rfl
 let d:Array Nat:=Array.range n;have hsize:d.size=l.length:=by simp [d,n]
 have hH:Holds enc c.w (c.bl 0) 0 d:=by
  intro j hj;rw [hsize] at hj;have h2:j<cs.size:=by omega
  constructor
  ·rw [Nat.zero_add,getElem!_pos d j (by rw [hsize];exact hj)];simp only [World.cell?,hcell,d,enc,Array.getElem_range];rw [Nat.mod_eq_of_lt hj,getElem!_pos cs j h2];simp [h2]
  ·simp [World.frozen?,hcell]
 let cf:Nat→Nat→Int:=fun i j=>BL (X i) (X j)
 have hO:SWO (ltOf cf):=⟨fun x=>WN.irrefl (X x),fun x y z=>WN.trans (X x) (X y) (X z),fun x y z=>WN.ntrans (X x) (X y) (X z)⟩;have hcmp:CmpLays1 Tryz.prog 162 #[] enc cf (c.bl 0) 0 d.size c.w:=by
  intro m os dk hdk x y;have hst:=JO (c:=c) hh e0 hrl (F:=dk.map enc) (es' :=dk.toList.map fun i=>AX f (X i)) (by simp [hdk,hsize]) (by simp [hdk,hsize]) (fun i e he=>by
    rw [List.getElem?_map] at he
    cases hd:dk.toList[i]? with
    | none=>rw [hd] at he;cases he
    | some x=>rw [hd] at he;simp at he;subst he;rfl) (fun i e j u he hj=>by
    rw [List.getElem?_map] at he
    cases hd:dk.toList[i]? with
    | none=>rw [hd] at he;cases he
    | some y =>
     rw [hd] at he;simp at he;subst he
     have hj0:j=0:=by have:=(List.getElem?_eq_some_iff.1 hj).1;simp [AV.cs] at this;exact this
     subst hj0
     simp [AV.cs] at hj;subst hj
     have hi:i<dk.size:=by simpa using (List.getElem?_eq_some_iff.1 hd).1
     have hy:dk[i]=y:=by have:=(List.getElem?_eq_some_iff.1 hd).2;simpa using this
     refine ⟨enc y,by simp [hi,hy],a6 y⟩) m os
  obtain ⟨c2,e1,K,H,_⟩:=hst;have hW:sortWorld enc c.w (c.bl 0) 0 m dk os=c2.w:=by rw [e1];unfold sortWorld;rw [Nt]
  rw [hW];have low:∀i,AS ⟨c2.w,fun _=>0,fun _=>false,fun _=>True,fun _=>True,c2.w.heap.size⟩ (fun _=> .nil) (AX false (X i)) (enc i):=fun i=>by
   have k0:=(a6 i).ext K.ext;generalize Bc [(0,Ob.arr g 1 (dk.toList.map fun i=>AX f (X i)))] (lk [(0,Ob.arr g 1 (l.map (AX f)))] Ob.nil)=h2 at k0;have hS:∀f b,Dx c2 h2 f b→Dx ⟨c2.w,fun _=>0,fun _=>false,fun _=>True,fun _=>True,c2.w.heap.size⟩ (fun _=> .nil) false b:=fun f b hs=>⟨hs.1,(by rintro ⟨r,g,sz,es,hr,_⟩;cases hr), .inr (.inl trivial)⟩
   have k:AS ⟨c2.w,fun _=>0,fun _=>false,fun _=>True,fun _=>True,c2.w.heap.size⟩ (fun _=> .nil) (AX f (X i)).low (enc i):=AS.low (c:=c2) (c1:=⟨c2.w,fun _=>0,fun _=>false,fun _=>True,fun _=>True,c2.w.heap.size⟩) (h:=h2) (h1:=fun _=> .nil) rfl hS k0;simpa only [AV.low,lowL_eGp] using k
  have C:=(@MN EV (X x) (X y) (by rw [hXe];exact hx1 _ (List.getElem_mem _)) (by rw [hXe];exact hx1 _ (List.getElem_mem _))).2 ⟨c2.w,fun _=>0,fun _=>false,fun _=>True,fun _=>True,c2.w.heap.size⟩ #[enc x,enc y] rfl (Ru _) ⟨rfl,fun i u v hu hv=>by
   match i with
   | 0=>simp at hu hv;subst hu hv;exact low x
   | 1=>simp at hu hv;subst hu hv;exact low y
   | i+2=>simp at hu⟩
  refine C.mono ?_;rintro e w' ⟨v,x',hl',c',rfl,rfl,⟨rfl,rfl⟩,k1,_,k3⟩;obtain ⟨q,os',e⟩:=J1 k1;exact ⟨by rw [As k3],q,os',e⟩
 have S:=Any.slices_SortFunc Tryz.laysSortL enc hone cf hO 162 #[] (c.bl 0) 0 cap d c.w (enters_of Tryz.func162 (by kernel_rfl) rfl) hcmp hH hb (by rw [hsize];omega);have S2:Calls Tryz.prog 161 #[.slice (some ⟨c.bl 0,0*1,none⟩) l.length cap, .func (.func 162) #[] #[]] c.w fun e w' =>e= .returned (.tuple #[])∧∃d' n os,PermIn 0 d.size d d' ∧SortedIn (ltOf cf) 0 d.size d' ∧w' =sortWorld enc c.w (c.bl 0) 0 n d' os:=by
  rw [hsize] at S;rw [hsize];exact S
 refine Calls.mono S2 ?_;rintro e w' ⟨rfl,d',m,os,hp,hs,rfl⟩;obtain ⟨p1,_,p3⟩:=hp;rw [hsize] at p1 p3 hs;have l1:d'.toList.length=l.length:=by simpa using p1
 have hperm:d'.toList.Perm (List.range l.length):=by
  have e1:(d'.extract 0 l.length).toList=d'.toList:=by rw [←p1];simp
  have e2:(d.extract 0 l.length).toList=List.range l.length:=by rw [←hsize];simp [d,n]
  rwa [e1,e2] at p3
 have hlt:∀i∈d'.toList,i<l.length:=fun i hi=>by simpa using hperm.subset hi
 have hXX:d'.toList.map X=d'.toList.map fun i=>l[i]! :=List.map_congr_left fun i hi=>by simp only [X,n];rw [Nat.mod_eq_of_lt (hlt i hi)]
 have hp2:(d'.toList.map X).Perm l:=by rw [hXX];exact NB hperm
 have hsort:(d'.toList.map X).Pairwise fun a b=>BL a b≤0:=by
  rw [List.pairwise_map,List.pairwise_iff_getElem];intro i j hi hj hij;have:=hs i j (Nat.zero_le _) hij (by omega);rw [getElem!_pos d' j (by simpa using hj),getElem!_pos d' i (by simpa using hi)] at this;simp only [ltOf,decide_eq_false_iff_not,cf] at this;have sw:=Dy (X d'.toList[i]) (X d'.toList[j]);simp only [Array.getElem_toList] at *;omega
 obtain ⟨c',e1,K,H,_⟩:=JO hh e0 hrl (F:=d'.map enc) (es' :=(d'.toList.map X).map (AX f)) (by rw [Array.size_map,p1,List.length_map,Nat.mul_one]) (by rw [List.length_map,List.length_map,List.length_map,l1]) (fun i e he=>by
   rw [List.getElem?_map] at he
   cases hd:(d'.toList.map X)[i]? with
   | none=>rw [hd] at he;cases he
   | some x=>rw [hd] at he;simp at he;subst he;rfl) (fun i e j u he hj=>by
   rw [List.map_map,List.getElem?_map] at he
   cases hd:d'.toList[i]? with
   | none=>rw [hd] at he;cases he
   | some y =>
    rw [hd] at he;simp at he;subst he
    have hj0:j=0:=by have:=(List.getElem?_eq_some_iff.1 hj).1;simp [AV.cs] at this;exact this
    subst hj0
    simp [AV.cs] at hj;subst hj
    have hi:i<d'.size:=by simpa using (List.getElem?_eq_some_iff.1 hd).1
    have hy:d'[i]=y:=by have:=(List.getElem?_eq_some_iff.1 hd).2;simpa using this
    exact ⟨enc y,by simp [hi,hy],a6 y⟩) m os
 have e2:lk [(0,Ob.arr g 1 ((d'.toList.map X).map (AX f)))] Ob.nil=Bc [(0,Ob.arr g 1 ((d'.toList.map X).map (AX f)))] (lk [(0,Ob.arr g 1 (l.map (AX f)))] Ob.nil):=by
  funext r;by_cases hr:r=0
  ·subst hr;rfl
  ·simp [lk,Bc,hr,Ne.symm hr]
 refine ⟨_, .v (.tuple #[]),[(0, .arr g 1 ((d'.toList.map X).map (AX f)))],c',rfl,by rw [e1];unfold sortWorld;rw [Nt enc],⟨rfl,_,hp2,hsort,rfl⟩,?_,?_, .v _⟩
 ·rw [e2];exact K
 ·rw [e2];exact H
end Go.Proofs.YthblfhgofopcaaaGreat
