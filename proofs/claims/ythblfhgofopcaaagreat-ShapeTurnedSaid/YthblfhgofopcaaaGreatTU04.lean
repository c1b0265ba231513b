/-
  Parts of the proof: FrmL, SplqA, FroA.
-/
import Derived.Test.YthblfhgofopcaaaGreatTU03
import Derived.Test.YthblfhgofopcaaaGreatSH13
import Derived.Test.YthblfhgofopcaaaGreatSH14
import Derived.Test.YthblfhgofopcaaaGreatSH23
set_option linter.all false
namespace Go.Proofs.YthblfhgofopcaaaGreat
open Go.RowKit
theorem Qi (rn:Int→Bool):∀(f:Nat) (left:List Int) (pr:Option Gp) (pd:Bool),(Ef rn f left pr pd).length≤3 ^ f
 | 0,_,_,_=>by simp [Ef]
 | f+1,left,pr,pd=>by
  have e:3 ^ (f+1)=3 ^ f+3 ^ f+3 ^ f:=by rw [Nat.pow_succ];omega
  have h0:1≤3 ^ f:=Nat.one_le_pow _ _ (by omega);have ih:=Qi rn f;rw [Ef];split
  ·split<;>simp<;>omega
  ·simp only [List.length_append];have h1:∀(c:Prop) [Decidable c] (l:List (List Gp)),l.length≤3 ^ f→(if c then l else []).length≤3 ^ f:=fun c _ l hl=>by
    split
    ·exact hl
    ·simp
   have a1:=h1 (2≤left.getD (AB left) 0∧pd=false∧BZ pr (AB left)=0) _ (by rw [List.length_map];exact ih (Ah left [(AB left:Int),(AB left:Int)]) (some (gp 4 (AB left))) true:((Ef rn f (Ah left [(AB left:Int),(AB left:Int)]) (some (gp 4 (AB left))) true).map (gp 4 (AB left)::·)).length≤3 ^ f);have a2:=h1 (3≤left.getD (AB left) 0∧BZ pr (AB left)≠1) _ (by rw [List.length_map];exact ih (Ah left [(AB left:Int),(AB left:Int),(AB left:Int)]) (some (gp 2 (AB left))) pd:((Ef rn f (Ah left [(AB left:Int),(AB left:Int),(AB left:Int)]) (some (gp 2 (AB left))) pd).map (gp 2 (AB left)::·)).length≤3 ^ f);have a3:=h1 (rn (AB left)=true∧0<left.getD (AB left+1) 0∧0<left.getD (AB left+2) 0) _ (by rw [List.length_map];exact ih (Ah left [(AB left:Int),(AB left:Int)+1,(AB left:Int)+2]) (some (gp 1 (AB left))) pd:((Ef rn f (Ah left [(AB left:Int),(AB left:Int)+1,(AB left:Int)+2]) (some (gp 1 (AB left))) pd).map (gp 1 (AB left)::·)).length≤3 ^ f);omega
structure FP (s:AL) (f k:Nat) (x:Sx):Prop where
 sb:Sb x.left
 ln:(x.left.length:Int)=AY s
 sm:x.left.sum<(f:Int)
 k0:k≤x.left.length
 kz:∀i,i<k→x.left.getD i 0=0
 so:x.so.length+f≤1000
 cl:Cl x.so
 pr:x.pd=true→x.so≠[]
def DT (s:AL) (f:Nat) (x:Sx):List (List Gp):=(Ef (AT s) f x.left x.so.getLast? x.pd).map fun r=>CX (x.so++r)
theorem ND (s:AL) (f:Nat) (x:Sx):(DT s f x).length≤3 ^ f:=by unfold DT;rw [List.length_map];exact Qi _ _ _ _ _
theorem FP.le {s:AL} {f k:Nat} {x:Sx} (h:FP s f k x):k≤AB x.left:=by
 by_cases hk:AB x.left<x.left.length
 ·have h1:=Bu x.left hk;rcases Nat.lt_or_ge (AB x.left) k with h2|h2
  ·exact absurd (h.kz _ h2) h1
  ·exact h2
 ·have:=BG x.left;have:=h.k0;omega
theorem FP.next {s:AL} {f k:Nat} {x:Sx} (h:FP s (f+1) k x) (g:Gp) (pd:Bool) (gs go:Nat) (hg:g.op=false) (hk:D8 x.left.length (AI g.wh g.kd)) (hc:∀i,Cz (AI g.wh g.kd) i≤x.left.getD i 0) (hlow:∀z∈AI g.wh g.kd,(AB x.left:Int)≤z) (hpos:0<(AI g.wh g.kd).length) :
  FP s f (AB x.left) ⟨Ah x.left (AI g.wh g.kd),pd,x.so++[g],[],gs,go⟩ where
 sb i:=by
  show 0≤(Ah x.left (AI g.wh g.kd)).getD i 0∧_;rw [BF _ _ hk];have:=hc i;have:=h.sb i;have:=Ai (AI g.wh g.kd) i;omega
 ln:=by rw [Bn];exact h.ln
 sm:=by rw [Ck _ _ hk];have:=h.sm;omega
 k0:=by rw [Bn];exact BG _
 kz i hi:=by
  rw [BF _ _ hk,Bf _ _ hi];have:Cz (AI g.wh g.kd) i=0:=by
   unfold Cz;rw [List.count_eq_zero_of_not_mem fun hm=>by have:=hlow _ hm;omega];rfl
  omega
 so:=by have:=h.so;simp;omega
 cl z hz:=by
  rcases List.mem_append.1 hz with hz|hz
  ·exact h.cl z hz
  ·simp at hz;subst hz;exact hg
 pr _:=by simp
theorem KW (s:AL) (f:Nat) (left:List Int) (pd:Bool) (so:List Gp) (g:Gp) (gs go:Nat):DT s f ⟨left,pd,so++[g],[],gs,go⟩=((Ef (AT s) f left (some g) pd).map (g::·)).map fun r=>CX (so++r):=by
 unfold DT;simp only [List.getLast?_append,List.getLast?_singleton,Option.some_or,List.map_map];congr 1;funext r;simp
def c1 (x:Sx):Prop:=2≤x.left.getD (AB x.left) 0∧x.pd=false∧BZ x.so.getLast? (AB x.left)=0
def c2 (x:Sx):Prop:=3≤x.left.getD (AB x.left) 0∧BZ x.so.getLast? (AB x.left)≠1
def c3 (s:AL) (x:Sx):Prop:=AT s (AB x.left)=true∧0<x.left.getD (AB x.left+1) 0∧0<x.left.getD (AB x.left+2) 0
instance (x:Sx):Decidable (c1 x):=by unfold c1;infer_instance
instance (x:Sx):Decidable (c2 x):=by unfold c2;infer_instance
instance (s:AL) (x:Sx):Decidable (c3 s x):=by unfold c3;infer_instance
def Li (s:AL) (f:Nat) (x:Sx):List (List Gp):=if c1 x then DT s f ⟨Ah x.left (AI 4 (AB x.left)),true,x.so++[gp 4 (AB x.left)],[],0,0⟩ else []
def Lq (s:AL) (f:Nat) (x:Sx):List (List Gp):=if c2 x then DT s f ⟨Ah x.left (AI 2 (AB x.left)),x.pd,x.so++[gp 2 (AB x.left)],[],0,0⟩ else []
def MY (s:AL) (f:Nat) (x:Sx):List (List Gp):=if c3 s x then DT s f ⟨Ah x.left (AI 1 (AB x.left)),x.pd,x.so++[gp 1 (AB x.left)],[],0,0⟩ else []
theorem OZ (s:AL) (f:Nat) (x:Sx) (h:¬AB x.left=x.left.length):DT s (f+1) x=Li s f x++(Lq s f x++MY s f x):=by
 unfold Li Lq MY;rw [KW,KW,KW];have e1:∀k:Int,AI 4 k=[k,k]:=fun k=>by simp [AI]
 have e2:∀k:Int,AI 2 k=[k,k,k]:=fun k=>by simp [AI]
 have e3:∀k:Int,AI 1 k=[k,k+1,k+2]:=fun k=>by simp [AI]
 rw [e1,e2,e3];show (Ef (AT s) (f+1) x.left x.so.getLast? x.pd).map _=_;rw [Ef,if_neg h,List.map_append,List.map_append];congr 1
 ·by_cases hc:c1 x
  ·have hc' :2≤x.left.getD (AB x.left) 0∧x.pd=false∧BZ x.so.getLast? (AB x.left)=0:=hc;rw [if_pos hc,if_pos hc']
  ·have hc' :¬(2≤x.left.getD (AB x.left) 0∧x.pd=false∧BZ x.so.getLast? (AB x.left)=0):=hc;rw [if_neg hc,if_neg hc'];rfl
 ·congr 1
  ·by_cases hc:c2 x
   ·have hc' :3≤x.left.getD (AB x.left) 0∧BZ x.so.getLast? (AB x.left)≠1:=hc;rw [if_pos hc,if_pos hc']
   ·have hc' :¬(3≤x.left.getD (AB x.left) 0∧BZ x.so.getLast? (AB x.left)≠1):=hc;rw [if_neg hc,if_neg hc'];rfl
  ·by_cases hc:c3 s x
   ·have hc' :AT s (AB x.left)=true∧0<x.left.getD (AB x.left+1) 0∧0<x.left.getD (AB x.left+2) 0:=hc;rw [if_pos hc,if_pos hc']
   ·have hc' :¬(AT s (AB x.left)=true∧0<x.left.getD (AB x.left+1) 0∧0<x.left.getD (AB x.left+2) 0):=hc;rw [if_neg hc,if_neg hc'];rfl
theorem Rc (s:AL) (f:Nat) (x:Sx) (h:AB x.left=x.left.length):DT s (f+1) x=if x.pd=true then [CX x.so] else []:=by
 show (Ef (AT s) (f+1) x.left x.so.getLast? x.pd).map _=_;rw [Ef,if_pos h];split<;>simp
theorem ZS (out:List (List Gp)) (w:List Gp) (i:Nat) (e e' :AV) (h:(out.map (AX false)++[AX true w])[i]? =some e) (h' :((out++[w]).map (AX false))[i]? =some e'):e.cs=[e]∧e'.cs=[e']∧An e e' :=by
 rw [List.map_append] at h';by_cases hi:i<out.length
 ·rw [List.getElem?_append_left (by simpa using hi)] at h h';rw [h] at h';injection h' with h'
  subst h';rw [List.getElem?_map] at h;cases hx:out[i]? with
  | none=>rw [hx] at h;cases h
  | some y=>rw [hx] at h;simp at h;subst h;exact ⟨rfl,rfl,An.rfl'⟩
 ·rw [List.getElem?_append_right (by simp;omega)] at h h';simp only [List.length_map,List.map_cons,List.map_nil] at h h';cases hm:i-out.length with
  | zero=>rw [hm] at h h';simp at h h';subst h h';exact ⟨rfl,rfl,An.sl _ _ _⟩
  | succ m=>rw [hm] at h;simp at h
structure N5 (s:AL) (x:Sx) (wh:Int):Prop where
 gr:Ak s wh (AB x.left)=0
 inb:D8 x.left.length (AI wh (AB x.left))
 ct:∀i,Cz (AI wh (AB x.left)) i≤x.left.getD i 0
 low:∀z∈AI wh (AB x.left),(AB x.left:Int)≤z
 pos:0<(AI wh (AB x.left)).length
theorem TA {s:AL} {f k:Nat} {x:Sx} (h:FP s f k x) (hq:AB x.left<x.left.length) (hc:2≤x.left.getD (AB x.left) 0):N5 s x 4 where
 gr:=by unfold Ak;rw [if_neg (by omega),if_neg (by have:=h.ln;omega),if_neg (by simp)]
 inb z hz:=by simp [AI] at hz;omega
 ct i:=by
  have:=h.sb i;have e:Cz (AI 4 (AB x.left)) i=if (AB x.left:Int)=(i:Int) then 2 else 0:=by rw [show AI 4 (AB x.left)=[(AB x.left:Int),(AB x.left:Int)] by simp [AI],BW,BW];simp only [Cz];split<;>simp
  rw [e];split
  ·rename_i hi;have:AB x.left=i:=by omega
   subst this;exact hc
  ·exact this.1
 low z hz:=by simp [AI] at hz;omega
 pos:=by simp [AI]
theorem Sk {s:AL} {f k:Nat} {x:Sx} (h:FP s f k x) (hq:AB x.left<x.left.length) (hc:3≤x.left.getD (AB x.left) 0):N5 s x 2 where
 gr:=by unfold Ak;rw [if_neg (by omega),if_neg (by have:=h.ln;omega),if_neg (by simp)]
 inb z hz:=by simp [AI] at hz;omega
 ct i:=by
  have:=h.sb i;have e:Cz (AI 2 (AB x.left)) i=if (AB x.left:Int)=(i:Int) then 3 else 0:=by rw [show AI 2 (AB x.left)=[(AB x.left:Int),(AB x.left:Int),(AB x.left:Int)] by simp [AI],BW,BW,BW];simp only [Cz];split<;>simp
  rw [e];split
  ·rename_i hi;have:AB x.left=i:=by omega
   subst this;exact hc
  ·exact this.1
 low z hz:=by simp [AI] at hz;omega
 pos:=by simp [AI]
theorem SO {s:AL} {f k:Nat} {x:Sx} (h:FP s f k x) (hq:AB x.left<x.left.length) (hr:AT s (AB x.left)=true) (h1:0<x.left.getD (AB x.left+1) 0) (h2:0<x.left.getD (AB x.left+2) 0):N5 s x 1 where
 gr:=by unfold Ak;rw [if_neg (by omega),if_neg (by have:=h.ln;omega),if_neg (by simp [hr])]
 inb z hz:=by have:=Ct hr;have:=h.ln;simp [AI] at hz;omega
 ct i:=by
  have hb:=h.sb i;have h0:=Bu x.left hq;have h00:=(h.sb (AB x.left)).1;have e:Cz (AI 1 (AB x.left)) i=if (AB x.left:Int)=(i:Int)∨(AB x.left:Int)+1=(i:Int)∨(AB x.left:Int)+2=(i:Int) then 1 else 0:=B9 (AB x.left) false i
  rw [e];split
  ·rename_i hi;rcases hi with hi|hi|hi
   ·have:AB x.left=i:=by omega
    subst this;omega
   ·have:AB x.left+1=i:=by omega
    subst this;omega
   ·have:AB x.left+2=i:=by omega
    subst this;omega
  ·exact hb.1
 low z hz:=by simp [AI] at hz;omega
 pos:=by simp [AI]
theorem N5.next {s:AL} {f k:Nat} {x:Sx} {wh:Int} (w:N5 s x wh) (h:FP s (f+1) k x) (pd:Bool) (gs go:Nat):FP s f (AB x.left) ⟨Ah x.left (AI wh (AB x.left)),pd,x.so++[gp wh (AB x.left)],[],gs,go⟩ :=
 h.next (gp wh (AB x.left)) pd gs go rfl w.inb w.ct w.low w.pos
theorem IS (s:AL) (f:Nat) (left:List Int) (pd:Bool) (so junk:List Gp) (gs go:Nat) {j:Nat} (hq:AB left=j) {last:Int} (hl:BZ so.getLast? j=last):Li s f ⟨left,pd,so,junk,gs,go⟩=if 2≤left.getD j 0∧pd=false∧last=0 then DT s f ⟨Ah left (AI 4 j),true,so++[gp 4 j],[],0,0⟩ else []:=by
 subst hq hl;unfold Li;by_cases hc:c1 ⟨left,pd,so,junk,gs,go⟩
 ·have hc' :2≤left.getD (AB left) 0∧pd=false∧BZ so.getLast? (AB left)=0:=hc;rw [if_pos hc,if_pos hc']
 ·have hc' :¬(2≤left.getD (AB left) 0∧pd=false∧BZ so.getLast? (AB left)=0):=hc;rw [if_neg hc,if_neg hc']
theorem Ib (s:AL) (f:Nat) (left:List Int) (pd:Bool) (so junk:List Gp) (gs go:Nat) {j:Nat} (hq:AB left=j) {last:Int} (hl:BZ so.getLast? j=last):Lq s f ⟨left,pd,so,junk,gs,go⟩=if 3≤left.getD j 0∧last≠1 then DT s f ⟨Ah left (AI 2 j),pd,so++[gp 2 j],[],0,0⟩ else []:=by
 subst hq hl;unfold Lq;by_cases hc:c2 ⟨left,pd,so,junk,gs,go⟩
 ·have hc' :3≤left.getD (AB left) 0∧BZ so.getLast? (AB left)≠1:=hc;rw [if_pos hc,if_pos hc']
 ·have hc' :¬(3≤left.getD (AB left) 0∧BZ so.getLast? (AB left)≠1):=hc;rw [if_neg hc,if_neg hc']
theorem Ij (s:AL) (f:Nat) (left:List Int) (pd:Bool) (so junk:List Gp) (gs go:Nat) {j:Nat} (hq:AB left=j):MY s f ⟨left,pd,so,junk,gs,go⟩=if AT s (j:Int)=true∧0<left.getD (j+1) 0∧0<left.getD (j+2) 0 then DT s f ⟨Ah left (AI 1 j),pd,so++[gp 1 j],[],0,0⟩ else []:=by
 subst hq;unfold MY;by_cases hc:c3 s ⟨left,pd,so,junk,gs,go⟩
 ·have hc' :AT s (AB left:Int)=true∧0<left.getD (AB left+1) 0∧0<left.getD (AB left+2) 0:=hc;rw [if_pos hc,if_pos hc']
 ·have hc' :¬(AT s (AB left:Int)=true∧0<left.getD (AB left+1) 0∧0<left.getD (AB left+2) 0):=hc;rw [if_neg hc,if_neg hc']
set_option maxRecDepth 100000
set_option maxHeartbeats 2000000
def I6 (s:AL) (k:Nat) (x:Sx):Prop:=Bb Tryz.prog 158 [I k, .ref 1 0 0 0, .ref 2 0 0 0, .ref 3 0 0 0, .ref 4 0 0 0, .ref 5 0 0 0, .ref 6 0 0 0, .ref 0 0 0 0] [(0, .arr 0 9 [AO s]),(1, .arr 0 1 [.rsl 7 1 0 x.left.length]),(2, .arr 0 1 [B x.pd]),(3, .arr 0 1 [.rsl 9 x.go 0 0]),(4, .arr 0 1 [.rsl 8 x.gs 0 x.so.length]),(5, .arr 0 1 [AA]),(6, .arr 0 1 [AF]),(7, .arr 1 1 (x.left.map I)),(8, .arr x.gs 3 ((x.so++x.junk).map AZ)),(9, .arr x.go 1 [])]
 fun v hl=>v= .tup []∧∃(junk:List Gp) (gs go:Nat),hl=[(0, .arr 0 9 [AO s]),(1, .arr 0 1 [.rsl 7 1 0 x.left.length]),(2, .arr 0 1 [B x.pd]),(3, .arr 0 1 [.rsl 9 go 0 0]),(4, .arr 0 1 [.rsl 8 gs 0 x.so.length]),(5, .arr 0 1 [AA]),(6, .arr 0 1 [AF]),(7, .arr 1 1 (x.left.map I)),(8, .arr gs 3 ((x.so++junk).map AZ)),(9, .arr go 1 [])]
def qC (s:AL) (k:Nat) (x:Sx):Prop:=Bb Tryz.prog 160 [.ref 5 0 0 0, .ref 10 0 0 0] [(0, .arr 0 9 [AO s]),(1, .arr 0 1 [.rsl 7 1 0 x.left.length]),(2, .arr 0 1 [B x.pd]),(3, .arr 0 1 [.rsl 9 x.go 0 0]),(4, .arr 0 1 [.rsl 8 x.gs 0 x.so.length]),(5, .arr 0 1 [AA]),(6, .arr 0 1 [AF]),(7, .arr 1 1 (x.left.map I)),(8, .arr x.gs 3 ((x.so++x.junk).map AZ)),(9, .arr x.go 1 []),(10, .arr 0 1 [I k])]
 fun v hl=>v= .tup []∧∃(junk:List Gp) (gs go:Nat),hl=[(0, .arr 0 9 [AO s]),(1, .arr 0 1 [.rsl 7 1 0 x.left.length]),(2, .arr 0 1 [B x.pd]),(3, .arr 0 1 [.rsl 9 go 0 0]),(4, .arr 0 1 [.rsl 8 gs 0 x.so.length]),(5, .arr 0 1 [AA]),(6, .arr 0 1 [AF]),(7, .arr 1 1 (x.left.map I)),(8, .arr gs 3 ((x.so++junk).map AZ)),(9, .arr go 1 []),(10, .arr 0 1 [I k])]
def Me (s:AL) (k:Nat) (g:Gp) (x:Sx):Prop:=Bb Tryz.prog 157 [AZ g,Ae, .ref 0 0 0 0, .ref 1 0 0 0, .ref 4 0 0 0] [(0, .arr 0 9 [AO s]),(1, .arr 0 1 [.rsl 7 1 0 x.left.length]),(2, .arr 0 1 [B x.pd]),(3, .arr 0 1 [.rsl 9 x.go 0 0]),(4, .arr 0 1 [.rsl 8 x.gs 0 x.so.length]),(5, .arr 0 1 [AA]),(6, .arr 0 1 [AF]),(7, .arr 1 1 (x.left.map I)),(8, .arr x.gs 3 ((x.so++x.junk).map AZ)),(9, .arr x.go 1 []),(10, .arr 0 1 [I k])]
 fun v hl=>v= .tup []∧∃(junk:List Gp) (gs go:Nat),hl=[(0, .arr 0 9 [AO s]),(1, .arr 0 1 [.rsl 7 1 0 x.left.length]),(2, .arr 0 1 [B x.pd]),(3, .arr 0 1 [.rsl 9 go 0 0]),(4, .arr 0 1 [.rsl 8 gs 0 x.so.length]),(5, .arr 0 1 [AA]),(6, .arr 0 1 [AF]),(7, .arr 1 1 (x.left.map I)),(8, .arr gs 3 ((x.so++junk).map AZ)),(9, .arr go 1 []),(10, .arr 0 1 [I k])]
set_option maxHeartbeats 2000000 in
theorem eR (s:AL) (k:Nat) (x:Sx) (h:I6 s k x ):qC s k x:=by
 unfold qC;unfold I6 at h;refine FL 11 Tryz.ntmps160 ?_;let tb:=L5;let lv:=J6;(have fa:= @AA.eq_1;(repeat' first|refine zQ ?_|refine zN ?_;intro K hC hK|refine zM ?_;try clear hK hC K|refine zC ?_ ?_<;>intro hb|refine zK ?_;intro Jo JU JC AH AJ AG)<;>(try clear fa))
 with_reducible apply Ap.obj [0,1,2,3,4,5,6,7,8,9] h
 ·(have fa:= @AA.eq_1;first|exact AK|(refine zE ?_;try clear fa))
 ·(have fa:=(And.intro @AA.eq_1 @AF.eq_1);first|exact AK|(refine zE ?_;try clear fa))
 ·decide
 ·intro r hr;simp at hr;rcases hr with rfl|rfl|rfl|rfl|rfl|rfl|rfl|rfl|rfl|rfl<;>exact ⟨_,_,_,rfl⟩
 ·refine ⟨by (have fa:= @AA.eq_1;first|exact AK|(refine zE ?_;try clear fa)),?_⟩;intro r hr g sz es he;simp at hr;rcases hr with rfl|rfl|rfl|rfl|rfl|rfl|rfl|rfl|rfl|rfl;all_goals
   injection he with h1 h2 h3
   subst h1 h2 h3;first|rfl|((have fa:=(And.intro @AA.eq_1 @AF.eq_1);first|exact AK|(refine zE ?_;try clear fa));done)|((have fa:=(And.intro @AA.eq_1 @AF.eq_1);first|exact AK|(refine zE ?_;try clear fa));rfl)
 ·rintro v hl ⟨rfl,junk,gs,go,rfl⟩;refine ⟨?_,?_,?_⟩
  ·exact ⟨by simp,by simp⟩
  ·intro p hp;simp at hp;rcases hp with rfl|rfl|rfl|rfl|rfl|rfl|rfl|rfl|rfl|rfl<;>intro h<;>simp at h
  ·(have fa:=(And.intro @AA.eq_1 @AF.eq_1);first|exact AK|(refine zE ?_;try clear fa))
   refine AG _ _ _ ?_;clear AH AJ AG Jo JU JC;(repeat' first|refine zQ ?_|refine zN ?_;intro K hC hK|refine zM ?_;try clear hK hC K|refine zC ?_ ?_<;>intro hb|refine zK ?_;intro Jo JU JC AH AJ AG)
   refine Kh [(0,0),(1,1),(2,2),(3,3),(4,4),(5,5),(6,6),(7,7),(8,8),(9,9),(10,10)] ?_ ?_<;>(first|exact AK|refine zE ?_);refine ⟨junk,gs,go,?_⟩;first|rfl|((have fa:=(And.intro @AA.eq_1 @AF.eq_1);first|exact AK|(refine zE ?_;try clear fa));done)|((have fa:=(And.intro @AA.eq_1 @AF.eq_1);first|exact AK|(refine zE ?_;try clear fa));rfl)
set_option maxHeartbeats 4000000 in
theorem WV (s:AL) (k:Nat) (g:Gp) (x:Sx) (hv:AP s=0) (hg:Ak s g.wh g.kd=0) (hk:D8 x.left.length (AI g.wh g.kd)) (hX:∀i,-1000≤x.left.getD i 0∧x.left.getD i 0≤1000) (hl:x.left.length≤1000000) (hso:x.so.length≤1000000)
  (h:∀gs,qC s k ⟨Ah x.left (AI g.wh g.kd),x.pd,x.so++[g],[],gs,x.go⟩ ):Me s k g x:=by
 have CT:=Ep s g;have et:BT s g.wh g.kd=AI g.wh g.kd:=by unfold BT;rw [if_pos ⟨hv,hg⟩]
 rw [et] at CT;have hks:=Bt g.wh g.kd;obtain ⟨ks,hke⟩:∃ks,AI g.wh g.kd=ks:=⟨_,rfl⟩;rw [hke] at CT hk hks h;clear et hke hg;unfold Me Ae;refine FL 11 Tryz.ntmps157 ?_;let tb:=Lx;let lv:=KE;(repeat' first|refine zS CT ?_|refine zQ ?_|refine zN ?_;intro K hC hK|refine zM ?_;try clear hK hC K|refine zC ?_ ?_<;>intro hb|refine zK ?_;intro Jo JU JC AH AJ AG)
 refine Ab ks.length (fun j σ=>σ=⟨900,[(1, .clo 160 [.ref 5 0 0 0, .ref 10 0 0 0]),(3, .ref 1 0 0 0),(4, .ref 4 0 0 0),(5, .ref 12 0 0 0),(7,AN true ks),(15,AN true ks),(16,I ks.length),(17,I j)],[(0, .arr 0 9 [AO s]),(1, .arr 0 1 [.rsl 7 1 0 x.left.length]),(2, .arr 0 1 [B x.pd]),(3, .arr 0 1 [.rsl 9 x.go 0 0]),(4, .arr 0 1 [.rsl 8 x.gs 0 x.so.length]),(5, .arr 0 1 [AA]),(6, .arr 0 1 [AF]),(7, .arr 1 1 ((Ah x.left (ks.take j)).map I)),(8, .arr x.gs 3 ((x.so++x.junk).map AZ)),(9, .arr x.go 1 []),(10, .arr 0 1 [I k]),(12, .arr 0 3 [AZ g])]⟩) [(0,0),(1,1),(2,2),(3,3),(4,4),(5,5),(6,6),(7,7),(8,8),(9,9),(10,10),(64,12)] [(0,0),(1,1),(2,2),(3,3),(4,4),(5,5),(6,6),(7,7),(8,8),(9,9),(10,10),(12,12)] 0 [1,3,4,5,7,15,16,17] 900 zg zg (by (have fa:=(And.intro @AA.eq_1 (And.intro @AF.eq_1 (And.intro @Ah.eq_1 (And.intro @List.take_zero.{0} @List.foldl_nil.{0,0}))));exact zV)) ?_;rintro j σ' hj rfl J hcJ hJ;by_cases hlt:j<ks.length
 ·obtain ⟨z,hz⟩:∃z,ks[j]=z:=⟨_,rfl⟩;have hin:=hk z (by rw [←hz];exact List.getElem_mem hlt);have ht:=Gs x.left ks hlt;have hXl:=Bn (ks.take j) x.left;have hXb:∀i,-1000000000≤(Ah x.left (ks.take j)).getD i 0∧(Ah x.left (ks.take j)).getD i 0≤1000000000:=fun i=>by
   rw [BF _ _ (fun y hy=>hk y (List.mem_of_mem_take hy))];have h1:=Cu (ks.take j) i;have h2:=Ai (ks.take j) i;have h3:=hX i;simp at h1;omega
  obtain ⟨X,hXe⟩:∃X,Ah x.left (ks.take j)=X:=⟨_,rfl⟩;rw [hXe,hz] at ht;rw [hXe] at hXl hXb;obtain ⟨d1,d2,d3⟩:=RA (X:=X) hin.1 (by omega) hXb;obtain ⟨Y,hY⟩:∃Y,DY X z=Y:=⟨_,rfl⟩;rw [hY] at ht d3;rw [hXe] at *;(have fa:=(And.intro hz (And.intro d2 d3));(repeat' first|refine zQ ?_|refine zN ?_;intro K hC hK|refine zM ?_;try clear hK hC K|refine zC ?_ ?_<;>intro hb|refine zK ?_;intro Jo JU JC AH AJ AG)<;>(try clear fa))
  exact hJ _ hlt (by (have fa:=(And.intro @AA.eq_1 (And.intro @AF.eq_1 ht));exact zV))
 ·obtain rfl:j=ks.length:=by omega
  rw [List.take_length];have BP:=ME hk;have hXl:=Bn ks x.left;have h:=h;obtain ⟨X,hXe⟩:∃X,Ah x.left ks=X:=⟨_,rfl⟩;have hXb0:∀i,-1004≤X.getD i 0∧X.getD i 0≤1004:=fun i=>by
   rw [←hXe,BF _ _ hk];have h1:=Cu ks i;have h2:=Ai ks i;have h3:=hX i;omega
  rw [hXe] at BP hXl h ⊢;have h1:(x.so++x.junk).take x.so.length=x.so:=by simp
  have h2:x.so.length≤(x.so++x.junk).length:=by simp
  unfold qC at h;simp only [List.append_nil,hXl,List.length_append,List.length_singleton] at h;(have fa:=h1;(repeat' first|refine zQ ?_|refine zN ?_;intro K hC hK|refine zM ?_;try clear hK hC K|refine zC ?_ ?_<;>intro hb|refine zK ?_;intro Jo JU JC AH AJ AG)<;>(try clear fa))
  with_reducible apply Ap.obj [0,1,2,3,4,5,6,7,8,9,10] (h (x.gs+1))
  ·(have fa:=(And.intro @AA.eq_1 @AF.eq_1);first|exact AK|(refine zE ?_;try clear fa))
  ·(have fa:=(And.intro @AA.eq_1 @AF.eq_1);first|exact AK|(refine zE ?_;try clear fa))
  ·decide
  ·intro r hr;simp at hr;rcases hr with rfl|rfl|rfl|rfl|rfl|rfl|rfl|rfl|rfl|rfl|rfl<;>exact ⟨_,_,_,rfl⟩
  ·refine ⟨by (have fa:= @AA.eq_1;first|exact AK|(refine zE ?_;try clear fa)),?_⟩;intro r hr g sz es he;simp at hr;rcases hr with rfl|rfl|rfl|rfl|rfl|rfl|rfl|rfl|rfl|rfl|rfl;all_goals
    injection he with h1 h2 h3
    subst h1 h2 h3;first|rfl|((have fa:=(And.intro @AA.eq_1 @AF.eq_1);first|exact AK|(refine zE ?_;try clear fa));done)|((have fa:=(And.intro @AA.eq_1 @AF.eq_1);first|exact AK|(refine zE ?_;try clear fa));rfl)
  ·rintro v hl ⟨rfl,junk,gs,go,rfl⟩;refine ⟨?_,?_,?_⟩
   ·exact ⟨by simp,by simp⟩
   ·intro p hp;simp at hp;rcases hp with rfl|rfl|rfl|rfl|rfl|rfl|rfl|rfl|rfl|rfl|rfl<;>intro h<;>simp at h
   ·(have fa:=(And.intro @AA.eq_1 @AF.eq_1);first|exact AK|(refine zE ?_;try clear fa))
    refine AG _ _ _ ?_;clear AH AJ AG Jo JU JC hJ hcJ J;have e9:∀q:List Gp,x.so++[g]++q=x.so++(g::q):=fun q=>by simp
    have e10:((((x.so.length+1:Nat):Int)-1-0).toNat)=x.so.length:=by omega
    rw [e9];(have fa:=e10;(repeat' first|refine zQ ?_|refine zN ?_;intro K hC hK|refine zM ?_;try clear hK hC K|refine zC ?_ ?_<;>intro hb|refine zK ?_;intro Jo JU JC AH AJ AG)<;>(try clear fa))
    refine Ab ks.length (fun j σ=>σ=⟨1900,[(3, .ref 1 0 0 0),(39,AN true ks),(40,I ks.length),(41,I j)],[(0, .arr 0 9 [AO s]),(1, .arr 0 1 [.rsl 7 1 0 x.left.length]),(2, .arr 0 1 [B x.pd]),(3, .arr 0 1 [.rsl 9 go 0 0]),(4, .arr 0 1 [.rsl 8 gs 0 x.so.length]),(5, .arr 0 1 [AA]),(6, .arr 0 1 [AF]),(7, .arr 1 1 ((A5 X (ks.take j)).map I)),(8, .arr gs 3 ((x.so++(g::junk)).map AZ)),(9, .arr go 1 []),(10, .arr 0 1 [I k]),(12, .arr 0 3 [AZ g])]⟩) [(0,0),(1,1),(2,2),(3,3),(4,4),(5,5),(6,6),(7,7),(8,8),(9,9),(10,10),(12,12)] [(0,0),(1,1),(2,2),(3,3),(4,4),(5,5),(6,6),(7,7),(8,8),(9,9),(10,10),(12,12)] 0 [3,39,40,41] 1900 zg zg (by (have fa:=(And.intro @AA.eq_1 (And.intro @AF.eq_1 (And.intro @A5.eq_1 (And.intro @List.take_zero.{0} @List.foldl_nil.{0,0}))));exact zV)) ?_;rintro j σ' hj rfl J hcJ hJ;by_cases hlt:j<ks.length
    ·obtain ⟨z,hz⟩:∃z,ks[j]=z:=⟨_,rfl⟩;have hk' :D8 X.length ks:=by rw [hXl];exact hk
     have hin:=hk' z (by rw [←hz];exact List.getElem_mem hlt);have ht:=D4 X ks hlt;have hYl:=Bp (ks.take j) X;have hYb:∀i,-1000000000≤(A5 X (ks.take j)).getD i 0∧(A5 X (ks.take j)).getD i 0≤1000000000:=fun i=>by
      rw [CY _ _ (fun y hy=>hk' y (List.mem_of_mem_take hy))];have h1:=Cu (ks.take j) i;have h2:=Ai (ks.take j) i;have h3:=hXb0 i;simp at h1;omega
     obtain ⟨Y,hYe⟩:∃Y,A5 X (ks.take j)=Y:=⟨_,rfl⟩;rw [hYe,hz] at ht;rw [hYe] at hYl hYb;have A:=I3 (X:=Y) (z:=z) hin.1 (by omega) hYb;have a1:=A.lt;have a2:=A.up;have a3:=A.st;rw [hYe] at *;(have fa:=(And.intro hz (And.intro a2 a3));(repeat' first|refine zQ ?_|refine zN ?_;intro K hC hK|refine zM ?_;try clear hK hC K|refine zC ?_ ?_<;>intro hb|refine zK ?_;intro Jo JU JC AH AJ AG)<;>(try clear fa))
     exact hJ _ hlt (by (have fa:=(And.intro @AA.eq_1 (And.intro @AF.eq_1 ht));exact zV))
    ·obtain rfl:j=ks.length:=by omega
     rw [List.take_length,BP];(repeat' first|refine zQ ?_|refine zN ?_;intro K hC hK|refine zM ?_;try clear hK hC K|refine zC ?_ ?_<;>intro hb|refine zK ?_;intro Jo JU JC AH AJ AG)
     refine Kh [(0,0),(1,1),(2,2),(3,3),(4,4),(5,5),(6,6),(7,7),(8,8),(9,9),(10,10)] ?_ ?_<;>(first|exact AK|refine zE ?_);exact ⟨g::junk,gs,go,by first|rfl|((have fa:=(And.intro @AA.eq_1 @AF.eq_1);first|exact AK|(refine zE ?_;try clear fa));done)|((have fa:=(And.intro @AA.eq_1 @AF.eq_1);first|exact AK|(refine zE ?_;try clear fa));rfl)⟩
set_option maxHeartbeats 8000000 in
theorem eG (s:AL) (hv:AP s=0) (f:Nat) (ihA:∀(k:Nat) (x:Sx),FP s f k x→DT s f x=[]→I6 s k x) (k:Nat) (x:Sx) (hp:FP s (f+1) k x) (hlt1:AB x.left<x.left.length) (hn1:Li s f x=[]) (hn2:Lq s f x=[]) (hn3:MY s f x=[]):I6 s k x:=by
 obtain ⟨left,pd,so,junk,gs,go⟩:=x;have hK:AY s≤60:=by have:=Bd s;omega
 have hln:=hp.ln;have hso:=hp.so;have hle:=hp.le;have hfl:=BG left;dsimp only at hln hso hle;dsimp only at hlt1;unfold I6;dsimp only;refine FL 10 Tryz.ntmps158 ?_;let tb:=Fd;let lv:=Ed;(repeat' first|refine zQ ?_|refine zN ?_;intro K hC hK|refine zM ?_;try clear hK hC K|refine zC ?_ ?_<;>intro hb|refine zK ?_;intro Jo JU JC AH AJ AG)
 refine DU (fun m σ=>∃j:Nat,m=left.length-j∧k≤j∧j≤AB left∧σ=⟨900,[(1, .ref 1 0 0 0),(2, .ref 2 0 0 0),(3, .ref 3 0 0 0),(4, .ref 4 0 0 0),(5, .ref 5 0 0 0),(6, .ref 6 0 0 0),(7, .ref 0 0 0 0),(8, .ref 10 0 0 0)],[(0, .arr 0 9 [AO s]),(1, .arr 0 1 [.rsl 7 1 0 left.length]),(2, .arr 0 1 [B pd]),(3, .arr 0 1 [.rsl 9 go 0 0]),(4, .arr 0 1 [.rsl 8 gs 0 so.length]),(5, .arr 0 1 [AA]),(6, .arr 0 1 [AF]),(7, .arr 1 1 (left.map I)),(8, .arr gs 3 ((so++junk).map AZ)),(9, .arr go 1 []),(10, .arr 0 1 [I j])]⟩) [(0,0),(1,1),(2,2),(3,3),(4,4),(5,5),(6,6),(7,7),(8,8),(9,9),(64,10)] [(0,0),(1,1),(2,2),(3,3),(4,4),(5,5),(6,6),(7,7),(8,8),(9,9),(10,10)] 0 [1,2,3,4,5,6,7,8] 900 zg zg ⟨_,k,rfl,Nat.le_refl _,hle,by (have fa:=(And.intro @AA.eq_1 @AF.eq_1);exact zV)⟩ ?_;rintro m σ' ⟨j,rfl,hj1,hj2,rfl⟩ J hcJ hJ;have hlt0:=Bf left;have hne0:=Bu left;by_cases hlt:j<left.length
 ·have hge:left.getD j 0=left[j]:=by simp [hlt]
  by_cases hz:left[j]=0
  ·(have fa:=hz;(repeat' first|refine zQ ?_|refine zN ?_;intro K hC hK|refine zM ?_;try clear hK hC K|refine zC ?_ ?_<;>intro hb|refine zK ?_;intro Jo JU JC AH AJ AG)<;>(try clear fa))
   refine hJ _ _ (show left.length-(j+1)<left.length-j by omega) ⟨j+1,rfl,by omega,?_,by (have fa:=(And.intro @AA.eq_1 @AF.eq_1);exact zV)⟩;rcases Nat.lt_or_ge j (AB left) with h|h
   ·exact h
   ·exfalso;have:j=AB left:=by omega
    subst this;exact hne0 hlt (by rw [hge];exact hz)
  ·have hj:j=AB left:=by
    rcases Nat.lt_or_ge j (AB left) with h|h
    ·exact absurd (hlt0 j h) (by rw [hge];exact hz)
    ·omega
   obtain ⟨q,hq⟩:∃q,AB left=q:=⟨_,rfl⟩;rw [hq] at hj;subst hj;(repeat' first|refine Vf ?_|refine zN ?_;intro K hC hK|refine zM ?_;try clear hK hC K|refine zK ?_;intro Jo JU JC AH AJ AG)
   refine E2 (by first|rfl|skip) (by first|rfl|(simp;omega)) ?_;(repeat' first|refine Vf ?_|refine zN ?_;intro K hC hK|refine zM ?_;try clear hK hC K|refine zK ?_;intro Jo JU JC AH AJ AG)
   refine E2 rfl (by simp;omega) ?_;refine FW ?_;repeat first|(with_reducible refine DO ?_)|(with_reducible refine Cw ?_)
   refine hK _ ?_;refine Gg fun K0 hC0 hK0=> ?_
   have W4:=fun hc=>TA hp hlt1 hc
   have W2:=fun hc=>Sk hp hlt1 hc
   have W1:=fun hr h1 h2=>SO hp hlt1 hr h1 h2
   dsimp only at W4 W2 W1;rw [hq] at W4 W2 W1;rw [Ij s f left pd so junk gs go hq] at hn3;have nx:∀(wh:Int) (wy:N5 s ⟨left,pd,so,junk,gs,go⟩ wh) (pd' :Bool) (gs' go' :Nat),FP s f j ⟨Ah left (AI wh j),pd',so++[gp wh j],[],gs',go'⟩:=fun wh wy pd' gs' go' =>by
    have:=wy.next hp pd' gs' go';dsimp only at this;rw [hq] at this;exact this
   have bd:∀i,-1000≤left.getD i 0∧left.getD i 0≤1000:=fun i=>by have:=hp.sb i;dsimp only at this;omega
   have putA' :∀(wh:Int) (wy:N5 s ⟨left,pd,so,junk,gs,go⟩ wh) (pd' :Bool) (jk:List Gp) (gs' go' :Nat),DT s f ⟨Ah left (AI wh j),pd',so++[gp wh j],[],0,0⟩=[]→Me s j (gp wh j) ⟨left,pd',so,jk,gs',go'⟩:=fun wh wy pd' jk gs' go' hnn=>by
    have hg:=wy.gr;have hi:=wy.inb;dsimp only at hg hi;rw [hq] at hg hi;exact WV s j (gp wh j) ⟨left,pd',so,jk,gs',go'⟩ hv hg hi bd (by dsimp only;omega) (by dsimp only;omega) fun g2=>eR s j _ (ihA j _ (nx wh wy pd' g2 go') hnn)
   clear nx;have key0:∀last:Int,BZ so.getLast? j=last→K0 ⟨900,[(1, .ref 1 0 0 0),(2, .ref 2 0 0 0),(6, .ref 6 0 0 0),(7, .ref 0 0 0 0),(8, .ref 10 0 0 0),(9, .clo 160 [.ref 5 0 0 0, .ref 10 0 0 0]),(10,I last)],[(0, .arr 0 9 [AO s]),(1, .arr 0 1 [.rsl 7 1 0 left.length]),(2, .arr 0 1 [B pd]),(3, .arr 0 1 [.rsl 9 go 0 0]),(4, .arr 0 1 [.rsl 8 gs 0 so.length]),(5, .arr 0 1 [AA]),(6, .arr 0 1 [AF]),(7, .arr 1 1 (left.map I)),(8, .arr gs 3 ((so++junk).map AZ)),(9, .arr go 1 []),(10, .arr 0 1 [I j])]⟩:=by
    intro last hlast;rw [IS s f left pd so junk gs go hq hlast] at hn1;rw [Ib s f left pd so junk gs go hq hlast] at hn2;refine hK0 _ ?_;refine D1 fun K1 hC1 hK1=> ?_
    have key1:∀(jk:List Gp) (g2 o2:Nat),K1 ⟨900,[(1, .ref 1 0 0 0),(6, .ref 6 0 0 0),(7, .ref 0 0 0 0),(8, .ref 10 0 0 0),(9, .clo 160 [.ref 5 0 0 0, .ref 10 0 0 0]),(10,I last)],[(0, .arr 0 9 [AO s]),(1, .arr 0 1 [.rsl 7 1 0 left.length]),(2, .arr 0 1 [B pd]),(3, .arr 0 1 [.rsl 9 o2 0 0]),(4, .arr 0 1 [.rsl 8 g2 0 so.length]),(5, .arr 0 1 [AA]),(6, .arr 0 1 [AF]),(7, .arr 1 1 (left.map I)),(8, .arr g2 3 ((so++jk).map AZ)),(9, .arr o2 1 []),(10, .arr 0 1 [I j])]⟩:=by
     intro jk g2 o2;refine hK1 _ ?_;refine D1 fun K2 hC2 hK2=> ?_
     have key2:∀(jk:List Gp) (g2 o2:Nat),K2 ⟨900,[(6, .ref 6 0 0 0),(7, .ref 0 0 0 0),(8, .ref 10 0 0 0),(9, .clo 160 [.ref 5 0 0 0, .ref 10 0 0 0]),(1, .ref 1 0 0 0)],[(0, .arr 0 9 [AO s]),(1, .arr 0 1 [.rsl 7 1 0 left.length]),(2, .arr 0 1 [B pd]),(3, .arr 0 1 [.rsl 9 o2 0 0]),(4, .arr 0 1 [.rsl 8 g2 0 so.length]),(5, .arr 0 1 [AA]),(6, .arr 0 1 [AF]),(7, .arr 1 1 (left.map I)),(8, .arr g2 3 ((so++jk).map AZ)),(9, .arr o2 1 []),(10, .arr 0 1 [I j])]⟩:=by
      intro jk g2 o2;refine hK2 _ ?_;have CR:=Er s (j:Int);by_cases hc:AT s (j:Int)=true∧0<left.getD (j+1) 0∧0<left.getD (j+2) 0
      ·obtain ⟨r1,r2,r3⟩:=hc;rw [if_pos ⟨r1,r2,r3⟩] at hn3;have hkr:=Ct r1;have hj1' :j+1<left.length:=by omega
       have hj2' :j+2<left.length:=by omega
       have q1:left.getD (j+1) 0=left[j+1]:=by simp [hj1']
       have q2:left.getD (j+2) 0=left[j+2]:=by simp [hj2']
       have P1:=putA' 1 (W1 r1 r2 r3) pd jk g2 o2 hn3;rw [r1] at CR;(have fa:= @AF.eq_1;(repeat' first|refine zS CR ?_|refine zQ ?_|refine zN ?_;intro K hC hK|refine zM ?_;try clear hK hC K|refine zC ?_ ?_<;>intro hb|refine zK ?_;intro Jo JU JC AH AJ AG)<;>(try clear fa))
       unfold Me at P1;dsimp only at P1;with_reducible apply Ap.obj [0,1,2,3,4,5,6,7,8,9,10] P1
       ·first|rfl|((have fa:=(And.intro @AA.eq_1 (And.intro @AF.eq_1 @Ae.eq_1));first|exact AK|(refine zE ?_;try clear fa));done)|((have fa:=(And.intro @AA.eq_1 (And.intro @AF.eq_1 @Ae.eq_1));first|exact AK|(refine zE ?_;try clear fa));rfl)
       ·first|rfl|((have fa:=(And.intro @AA.eq_1 (And.intro @AF.eq_1 @Ae.eq_1));first|exact AK|(refine zE ?_;try clear fa));done)|((have fa:=(And.intro @AA.eq_1 (And.intro @AF.eq_1 @Ae.eq_1));first|exact AK|(refine zE ?_;try clear fa));rfl)
       ·decide
       ·intro r hr;simp at hr;rcases hr with rfl|rfl|rfl|rfl|rfl|rfl|rfl|rfl|rfl|rfl|rfl<;>exact ⟨_,_,_,rfl⟩
       ·refine ⟨by (have fa:=(And.intro @AA.eq_1 (And.intro @AF.eq_1 @Ae.eq_1));first|exact AK|(refine zE ?_;try clear fa)),?_⟩;intro r hr g sz es he;simp at hr;rcases hr with rfl|rfl|rfl|rfl|rfl|rfl|rfl|rfl|rfl|rfl|rfl;all_goals
         injection he with h1 h2 h3
         subst h1 h2 h3;first|rfl|((have fa:=(And.intro @AA.eq_1 (And.intro @AF.eq_1 @Ae.eq_1));first|exact AK|(refine zE ?_;try clear fa));done)|((have fa:=(And.intro @AA.eq_1 (And.intro @AF.eq_1 @Ae.eq_1));first|exact AK|(refine zE ?_;try clear fa));rfl)
       rintro v hl ⟨rfl,jk2,g3,o3,rfl⟩;refine ⟨⟨by simp,by simp⟩,?_,?_⟩
       ·intro p hp;simp at hp;rcases hp with rfl|rfl|rfl|rfl|rfl|rfl|rfl|rfl|rfl|rfl|rfl<;>intro h<;>simp at h
       (have fa:=(And.intro @AA.eq_1 (And.intro @AF.eq_1 @Ae.eq_1));first|exact AK|(refine zE ?_;try clear fa))
       refine AG _ _ _ ?_;clear AH AJ AG Jo JU JC;(repeat' first|refine zQ ?_|refine zN ?_;intro K hC hK|refine zM ?_;try clear hK hC K|refine zC ?_ ?_<;>intro hb|refine zK ?_;intro Jo JU JC AH AJ AG)
       refine Kh [(0,0),(1,1),(2,2),(3,3),(4,4),(5,5),(6,6),(7,7),(8,8),(9,9)] ?_ ?_<;>(first|exact AK|refine zE ?_);exact ⟨jk2,g3,o3,by first|rfl|((have fa:=(And.intro @AA.eq_1 (And.intro @AF.eq_1 @Ae.eq_1));first|exact AK|(refine zE ?_;try clear fa));done)|((have fa:=(And.intro @AA.eq_1 (And.intro @AF.eq_1 @Ae.eq_1));first|exact AK|(refine zE ?_;try clear fa));rfl)⟩
      ·rw [if_neg hc] at hn3;by_cases r1:AT s (j:Int)=true
       ·have hkr:=Ct r1;have hj1' :j+1<left.length:=by omega
        have hj2' :j+2<left.length:=by omega
        have q1:left.getD (j+1) 0=left[j+1]:=by simp [hj1']
        have q2:left.getD (j+2) 0=left[j+2]:=by simp [hj2']
        rw [r1] at CR;rw [q1,q2] at hc;(have fa:= @AF.eq_1;(repeat' first|refine zS CR ?_|refine zQ ?_|refine zN ?_;intro K hC hK|refine zM ?_;try clear hK hC K|refine zC ?_ ?_<;>intro hb|refine zK ?_;intro Jo JU JC AH AJ AG)<;>(try clear fa))
        all_goals first
        |(exfalso;exact hc ⟨r1,by assumption,by assumption⟩)
        |skip
        all_goals
         refine Kh [(0,0),(1,1),(2,2),(3,3),(4,4),(5,5),(6,6),(7,7),(8,8),(9,9)] ?_ ?_<;>(first|exact AK|refine zE ?_);exact ⟨jk,g2,o2,by first|rfl|((have fa:=(And.intro @AA.eq_1 (And.intro @AF.eq_1 @Ae.eq_1));first|exact AK|(refine zE ?_;try clear fa));done)|((have fa:=(And.intro @AA.eq_1 (And.intro @AF.eq_1 @Ae.eq_1));first|exact AK|(refine zE ?_;try clear fa));rfl)⟩
       ·rw [show AT s (j:Int)=false by simpa using r1] at CR;(have fa:= @AF.eq_1;(repeat' first|refine zS CR ?_|refine zQ ?_|refine zN ?_;intro K hC hK|refine zM ?_;try clear hK hC K|refine zC ?_ ?_<;>intro hb|refine zK ?_;intro Jo JU JC AH AJ AG)<;>(try clear fa))
        all_goals
         refine Kh [(0,0),(1,1),(2,2),(3,3),(4,4),(5,5),(6,6),(7,7),(8,8),(9,9)] ?_ ?_<;>(first|exact AK|refine zE ?_);exact ⟨jk,g2,o2,by first|rfl|((have fa:=(And.intro @AA.eq_1 (And.intro @AF.eq_1 @Ae.eq_1));first|exact AK|(refine zE ?_;try clear fa));done)|((have fa:=(And.intro @AA.eq_1 (And.intro @AF.eq_1 @Ae.eq_1));first|exact AK|(refine zE ?_;try clear fa));rfl)⟩
     clear hK2;by_cases hc:3≤left.getD j 0∧last≠1
     ·obtain ⟨r1,r2⟩:=hc;rw [if_pos ⟨r1,r2⟩] at hn2;have P:=putA' 2 (W2 r1) pd jk g2 o2 hn2;rw [hge] at r1;(have fa:= @AF.eq_1;(repeat' first|refine zQ ?_|refine zN ?_;intro K hC hK|refine zM ?_;try clear hK hC K|refine zC ?_ ?_<;>intro hb|refine zK ?_;intro Jo JU JC AH AJ AG)<;>(try clear fa))
      unfold Me at P;dsimp only at P;with_reducible apply Ap.obj [0,1,2,3,4,5,6,7,8,9,10] P
      ·first|rfl|((have fa:=(And.intro @AA.eq_1 (And.intro @AF.eq_1 @Ae.eq_1));first|exact AK|(refine zE ?_;try clear fa));done)|((have fa:=(And.intro @AA.eq_1 (And.intro @AF.eq_1 @Ae.eq_1));first|exact AK|(refine zE ?_;try clear fa));rfl)
      ·first|rfl|((have fa:=(And.intro @AA.eq_1 (And.intro @AF.eq_1 @Ae.eq_1));first|exact AK|(refine zE ?_;try clear fa));done)|((have fa:=(And.intro @AA.eq_1 (And.intro @AF.eq_1 @Ae.eq_1));first|exact AK|(refine zE ?_;try clear fa));rfl)
      ·decide
      ·intro r hr;simp at hr;rcases hr with rfl|rfl|rfl|rfl|rfl|rfl|rfl|rfl|rfl|rfl|rfl<;>exact ⟨_,_,_,rfl⟩
      ·refine ⟨by (have fa:=(And.intro @AA.eq_1 (And.intro @AF.eq_1 @Ae.eq_1));first|exact AK|(refine zE ?_;try clear fa)),?_⟩;intro r hr g sz es he;simp at hr;rcases hr with rfl|rfl|rfl|rfl|rfl|rfl|rfl|rfl|rfl|rfl|rfl;all_goals
        injection he with h1 h2 h3
        subst h1 h2 h3;first|rfl|((have fa:=(And.intro @AA.eq_1 (And.intro @AF.eq_1 @Ae.eq_1));first|exact AK|(refine zE ?_;try clear fa));done)|((have fa:=(And.intro @AA.eq_1 (And.intro @AF.eq_1 @Ae.eq_1));first|exact AK|(refine zE ?_;try clear fa));rfl)
      rintro v hl ⟨rfl,jk2,g3,o3,rfl⟩;refine ⟨⟨by simp,by simp⟩,?_,?_⟩
      ·intro p hp;simp at hp;rcases hp with rfl|rfl|rfl|rfl|rfl|rfl|rfl|rfl|rfl|rfl|rfl<;>intro h<;>simp at h
      (have fa:=(And.intro @AA.eq_1 (And.intro @AF.eq_1 @Ae.eq_1));first|exact AK|(refine zE ?_;try clear fa))
      refine AG _ _ _ ?_;clear AH AJ AG Jo JU JC;(repeat' first|refine zQ ?_|refine zN ?_;intro K hC hK|refine zM ?_;try clear hK hC K|refine zC ?_ ?_<;>intro hb|refine zK ?_;intro Jo JU JC AH AJ AG)
      exact hC2.go [(0,0),(1,1),(2,2),(3,3),(4,4),(5,5),(6,6),(7,7),(8,8),(9,9),(10,10)] 0 [6,7,8,9,1] 900 _ _ (by exact ⟨by decide,by decide,by decide⟩) (key2 jk2 g3 o3) (by (have fa:=(And.intro @AA.eq_1 (And.intro @AF.eq_1 @Ae.eq_1));exact C8))
     ·rw [if_neg hc] at hn2;rw [hge] at hc;(have fa:= @AF.eq_1;(repeat' first|refine zQ ?_|refine zN ?_;intro K hC hK|refine zM ?_;try clear hK hC K|refine zC ?_ ?_<;>intro hb|refine zK ?_;intro Jo JU JC AH AJ AG)<;>(try clear fa))
      all_goals first
      |(exfalso;exact hc ⟨by assumption,by assumption⟩)
      |(exact hC2.go [(0,0),(1,1),(2,2),(3,3),(4,4),(5,5),(6,6),(7,7),(8,8),(9,9),(10,10)] 0 [6,7,8,9,1] 900 _ _ (by exact ⟨by decide,by decide,by decide⟩) (key2 jk g2 o2) (by (have fa:=(And.intro @AA.eq_1 (And.intro @AF.eq_1 @Ae.eq_1));exact C8)))
    clear hK1;by_cases hc:2≤left.getD j 0∧pd=false∧last=0
    ·obtain ⟨r1,rfl,rfl⟩:=hc;rw [if_pos ⟨r1,rfl,rfl⟩] at hn1;have P:=putA' 4 (W4 r1) true junk gs go hn1;rw [hge] at r1;(have fa:= @AF.eq_1;(repeat' first|refine zQ ?_|refine zN ?_;intro K hC hK|refine zM ?_;try clear hK hC K|refine zC ?_ ?_<;>intro hb|refine zK ?_;intro Jo JU JC AH AJ AG)<;>(try clear fa))
     unfold Me at P;dsimp only at P;with_reducible apply Ap.obj [0,1,2,3,4,5,6,7,8,9,10] P
     ·first|rfl|((have fa:=(And.intro @AA.eq_1 (And.intro @AF.eq_1 @Ae.eq_1));first|exact AK|(refine zE ?_;try clear fa));done)|((have fa:=(And.intro @AA.eq_1 (And.intro @AF.eq_1 @Ae.eq_1));first|exact AK|(refine zE ?_;try clear fa));rfl)
     ·first|rfl|((have fa:=(And.intro @AA.eq_1 (And.intro @AF.eq_1 @Ae.eq_1));first|exact AK|(refine zE ?_;try clear fa));done)|((have fa:=(And.intro @AA.eq_1 (And.intro @AF.eq_1 @Ae.eq_1));first|exact AK|(refine zE ?_;try clear fa));rfl)
     ·decide
     ·intro r hr;simp at hr;rcases hr with rfl|rfl|rfl|rfl|rfl|rfl|rfl|rfl|rfl|rfl|rfl<;>exact ⟨_,_,_,rfl⟩
     ·refine ⟨by (have fa:=(And.intro @AA.eq_1 (And.intro @AF.eq_1 @Ae.eq_1));first|exact AK|(refine zE ?_;try clear fa)),?_⟩;intro r hr g sz es he;simp at hr;rcases hr with rfl|rfl|rfl|rfl|rfl|rfl|rfl|rfl|rfl|rfl|rfl;all_goals
       injection he with h1 h2 h3
       subst h1 h2 h3;first|rfl|((have fa:=(And.intro @AA.eq_1 (And.intro @AF.eq_1 @Ae.eq_1));first|exact AK|(refine zE ?_;try clear fa));done)|((have fa:=(And.intro @AA.eq_1 (And.intro @AF.eq_1 @Ae.eq_1));first|exact AK|(refine zE ?_;try clear fa));rfl)
     rintro v hl ⟨rfl,jk2,g3,o3,rfl⟩;refine ⟨⟨by simp,by simp⟩,?_,?_⟩
     ·intro p hp;simp at hp;rcases hp with rfl|rfl|rfl|rfl|rfl|rfl|rfl|rfl|rfl|rfl|rfl<;>intro h<;>simp at h
     (have fa:=(And.intro @AA.eq_1 (And.intro @AF.eq_1 @Ae.eq_1));first|exact AK|(refine zE ?_;try clear fa))
     refine AG _ _ _ ?_;clear AH AJ AG Jo JU JC;(repeat' first|refine zQ ?_|refine zN ?_;intro K hC hK|refine zM ?_;try clear hK hC K|refine zC ?_ ?_<;>intro hb|refine zK ?_;intro Jo JU JC AH AJ AG)
     exact hC1.go [(0,0),(1,1),(2,2),(3,3),(4,4),(5,5),(6,6),(7,7),(8,8),(9,9),(10,10)] 0 [1,6,7,8,9,10] 900 _ _ (by exact ⟨by decide,by decide,by decide⟩) (key1 jk2 g3 o3) (by (have fa:=(And.intro @AA.eq_1 (And.intro @AF.eq_1 @Ae.eq_1));exact C8))
    ·rw [if_neg hc] at hn1;rw [hge] at hc;(have fa:= @AF.eq_1;(repeat' first|refine zQ ?_|refine zN ?_;intro K hC hK|refine zM ?_;try clear hK hC K|refine zC ?_ ?_<;>intro hb|refine zK ?_;intro Jo JU JC AH AJ AG)<;>(try clear fa))
     all_goals first
     |(exfalso;exact hc ⟨by assumption,by assumption,by assumption⟩)
     |(exact hC1.go [(0,0),(1,1),(2,2),(3,3),(4,4),(5,5),(6,6),(7,7),(8,8),(9,9),(10,10)] 0 [1,6,7,8,9,10] 900 _ _ (by exact ⟨by decide,by decide,by decide⟩) (key1 junk gs go) (by (have fa:=(And.intro @AA.eq_1 (And.intro @AF.eq_1 @Ae.eq_1));exact C8)))
   clear hK0;rcases List.eq_nil_or_concat so with rfl|⟨so',p,rfl⟩
   ·(repeat' first|refine zQ ?_|refine zN ?_;intro K hC hK|refine zM ?_;try clear hK hC K|refine zC ?_ ?_<;>intro hb|refine zK ?_;intro Jo JU JC AH AJ AG)
    exact hC0.go [(0,0),(1,1),(2,2),(3,3),(4,4),(5,5),(6,6),(7,7),(8,8),(9,9),(10,10)] 0 [1,2,6,7,8,9,10] 900 _ _ (by exact ⟨by decide,by decide,by decide⟩) (key0 0 rfl) (by (have fa:=(And.intro @AA.eq_1 (And.intro @AF.eq_1 @Ae.eq_1));exact C8))
   ·rw [List.concat_eq_append] at *;have hsl:so'.length+1≤1000:=by simp at hso;omega
    have e11:((((so'.length+1:Nat):Int)-1).toNat)=so'.length:=by omega
    have e12:Dv (List.map AZ (so' ++[p]++junk)) so'.length=AZ p:=by simp [Dv]
    have hlast:BZ (so' ++[p]).getLast? (j:Int)=if p.kd=(j:Int) then p.wh else 0:=by simp [BZ]
    by_cases hpk:p.kd=(j:Int)
    ·rw [if_pos hpk] at hlast;(have fa:=(And.intro e11 e12);(repeat' first|refine zQ ?_|refine zN ?_;intro K hC hK|refine zM ?_;try clear hK hC K|refine zC ?_ ?_<;>intro hb|refine zK ?_;intro Jo JU JC AH AJ AG)<;>(try clear fa))
     exact hC0.go [(0,0),(1,1),(2,2),(3,3),(4,4),(5,5),(6,6),(7,7),(8,8),(9,9),(10,10)] 0 [1,2,6,7,8,9,10] 900 _ _ (by exact ⟨by decide,by decide,by decide⟩) (key0 _ hlast) (by (have fa:=(And.intro @AA.eq_1 (And.intro @AF.eq_1 @Ae.eq_1));exact C8))
    ·rw [if_neg hpk] at hlast;(have fa:=(And.intro e11 e12);(repeat' first|refine zQ ?_|refine zN ?_;intro K hC hK|refine zM ?_;try clear hK hC K|refine zC ?_ ?_<;>intro hb|refine zK ?_;intro Jo JU JC AH AJ AG)<;>(try clear fa))
     exact hC0.go [(0,0),(1,1),(2,2),(3,3),(4,4),(5,5),(6,6),(7,7),(8,8),(9,9),(10,10)] 0 [1,2,6,7,8,9,10] 900 _ _ (by exact ⟨by decide,by decide,by decide⟩) (key0 _ hlast) (by (have fa:=(And.intro @AA.eq_1 (And.intro @AF.eq_1 @Ae.eq_1));exact C8))
 ·have hj:j=left.length:=by omega
  have hfk:AB left=left.length:=by omega
  exact absurd hlt1 (by omega)
end Go.Proofs.YthblfhgofopcaaaGreat
