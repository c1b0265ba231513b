/-
  Parts of the proof: FrmL.
-/
import Derived.Test.YthblfhgofopcaaaGreatFO03
set_option linter.all false
namespace Go.Proofs.YthblfhgofopcaaaGreat
open Go.RowKit
theorem Qi (rn:Int→Bool):∀(f:Nat) (left:List Int) (pr:Option Gp) (pd:Bool),(Ef rn f left pr pd).length≤3 ^ f
 | 0,_,_,_=>by simp [Ef]
 | f+1,left,pr,pd=>by
  have e:3 ^ (f+1)=3 ^ f+3 ^ f+3 ^ f:=by rw [Nat.pow_succ];omega
  have h0:1≤3 ^ f:=Nat.one_le_pow _ _ (by omega);have ih:=Qi rn f;rw [Ef];split
  ·split<;>simp<;>omega
  ·simp only [List.length_append];have h1:∀(c:Prop) [Decidable c] (l:List (List Gp)),l.length≤3 ^ f→(if c then l else []).length≤3 ^ f:=fun c _ l hl=>by
    split
    ·exact hl
    ·simp
   have a1:=h1 (2≤left.getD (AB left) 0∧pd=false∧BZ pr (AB left)=0) _ (by rw [List.length_map];exact ih (Ah left [(AB left:Int),(AB left:Int)]) (some (gp 4 (AB left))) true:((Ef rn f (Ah left [(AB left:Int),(AB left:Int)]) (some (gp 4 (AB left))) true).map (gp 4 (AB left)::·)).length≤3 ^ f);have a2:=h1 (3≤left.getD (AB left) 0∧BZ pr (AB left)≠1) _ (by rw [List.length_map];exact ih (Ah left [(AB left:Int),(AB left:Int),(AB left:Int)]) (some (gp 2 (AB left))) pd:((Ef rn f (Ah left [(AB left:Int),(AB left:Int),(AB left:Int)]) (some (gp 2 (AB left))) pd).map (gp 2 (AB left)::·)).length≤3 ^ f);have a3:=h1 (rn (AB left)=true∧0<left.getD (AB left+1) 0∧0<left.getD (AB left+2) 0) _ (by rw [List.length_map];exact ih (Ah left [(AB left:Int),(AB left:Int)+1,(AB left:Int)+2]) (some (gp 1 (AB left))) pd:((Ef rn f (Ah left [(AB left:Int),(AB left:Int)+1,(AB left:Int)+2]) (some (gp 1 (AB left))) pd).map (gp 1 (AB left)::·)).length≤3 ^ f);omega
structure FP (s:AL) (f k:Nat) (x:Sx):Prop where
 sb:Sb x.left
 ln:(x.left.length:Int)=AY s
 sm:x.left.sum<(f:Int)
 k0:k≤x.left.length
 kz:∀i,i<k→x.left.getD i 0=0
 so:x.so.length+f≤1000
 cl:Cl x.so
 pr:x.pd=true→x.so≠[]
def DT (s:AL) (f:Nat) (x:Sx):List (List Gp):=(Ef (AT s) f x.left x.so.getLast? x.pd).map fun r=>CX (x.so++r)
theorem ND (s:AL) (f:Nat) (x:Sx):(DT s f x).length≤3 ^ f:=by unfold DT;rw [List.length_map];exact Qi _ _ _ _ _
theorem FP.le {s:AL} {f k:Nat} {x:Sx} (h:FP s f k x):k≤AB x.left:=by
 by_cases hk:AB x.left<x.left.length
 ·have h1:=Bu x.left hk;rcases Nat.lt_or_ge (AB x.left) k with h2|h2
  ·exact absurd (h.kz _ h2) h1
  ·exact h2
 ·have:=BG x.left;have:=h.k0;omega
theorem FP.next {s:AL} {f k:Nat} {x:Sx} (h:FP s (f+1) k x) (g:Gp) (pd:Bool) (gs go:Nat) (hg:g.op=false) (hk:D8 x.left.length (AI g.wh g.kd)) (hc:∀i,Cz (AI g.wh g.kd) i≤x.left.getD i 0) (hlow:∀z∈AI g.wh g.kd,(AB x.left:Int)≤z) (hpos:0<(AI g.wh g.kd).length) :
  FP s f (AB x.left) ⟨Ah x.left (AI g.wh g.kd),pd,x.so++[g],[],gs,go⟩ where
 sb i:=by
  show 0≤(Ah x.left (AI g.wh g.kd)).getD i 0∧_;rw [BF _ _ hk];have:=hc i;have:=h.sb i;have:=Ai (AI g.wh g.kd) i;omega
 ln:=by rw [Bn];exact h.ln
 sm:=by rw [Ck _ _ hk];have:=h.sm;omega
 k0:=by rw [Bn];exact BG _
 kz i hi:=by
  rw [BF _ _ hk,Bf _ _ hi];have:Cz (AI g.wh g.kd) i=0:=by
   unfold Cz;rw [List.count_eq_zero_of_not_mem fun hm=>by have:=hlow _ hm;omega];rfl
  omega
 so:=by have:=h.so;simp;omega
 cl z hz:=by
  rcases List.mem_append.1 hz with hz|hz
  ·exact h.cl z hz
  ·simp at hz;subst hz;exact hg
 pr _:=by simp
theorem KW (s:AL) (f:Nat) (left:List Int) (pd:Bool) (so:List Gp) (g:Gp) (gs go:Nat):DT s f ⟨left,pd,so++[g],[],gs,go⟩=((Ef (AT s) f left (some g) pd).map (g::·)).map fun r=>CX (so++r):=by
 unfold DT;simp only [List.getLast?_append,List.getLast?_singleton,Option.some_or,List.map_map];congr 1;funext r;simp
def c1 (x:Sx):Prop:=2≤x.left.getD (AB x.left) 0∧x.pd=false∧BZ x.so.getLast? (AB x.left)=0
def c2 (x:Sx):Prop:=3≤x.left.getD (AB x.left) 0∧BZ x.so.getLast? (AB x.left)≠1
def c3 (s:AL) (x:Sx):Prop:=AT s (AB x.left)=true∧0<x.left.getD (AB x.left+1) 0∧0<x.left.getD (AB x.left+2) 0
instance (x:Sx):Decidable (c1 x):=by unfold c1;infer_instance
instance (x:Sx):Decidable (c2 x):=by unfold c2;infer_instance
instance (s:AL) (x:Sx):Decidable (c3 s x):=by unfold c3;infer_instance
def Li (s:AL) (f:Nat) (x:Sx):List (List Gp):=if c1 x then DT s f ⟨Ah x.left (AI 4 (AB x.left)),true,x.so++[gp 4 (AB x.left)],[],0,0⟩ else []
def Lq (s:AL) (f:Nat) (x:Sx):List (List Gp):=if c2 x then DT s f ⟨Ah x.left (AI 2 (AB x.left)),x.pd,x.so++[gp 2 (AB x.left)],[],0,0⟩ else []
def MY (s:AL) (f:Nat) (x:Sx):List (List Gp):=if c3 s x then DT s f ⟨Ah x.left (AI 1 (AB x.left)),x.pd,x.so++[gp 1 (AB x.left)],[],0,0⟩ else []
theorem OZ (s:AL) (f:Nat) (x:Sx) (h:¬AB x.left=x.left.length):DT s (f+1) x=Li s f x++(Lq s f x++MY s f x):=by
 unfold Li Lq MY;rw [KW,KW,KW];have e1:∀k:Int,AI 4 k=[k,k]:=fun k=>by simp [AI]
 have e2:∀k:Int,AI 2 k=[k,k,k]:=fun k=>by simp [AI]
 have e3:∀k:Int,AI 1 k=[k,k+1,k+2]:=fun k=>by simp [AI]
 rw [e1,e2,e3];show (Ef (AT s) (f+1) x.left x.so.getLast? x.pd).map _=_;rw [Ef,if_neg h,List.map_append,List.map_append];congr 1
 ·by_cases hc:c1 x
  ·have hc' :2≤x.left.getD (AB x.left) 0∧x.pd=false∧BZ x.so.getLast? (AB x.left)=0:=hc;rw [if_pos hc,if_pos hc']
  ·have hc' :¬(2≤x.left.getD (AB x.left) 0∧x.pd=false∧BZ x.so.getLast? (AB x.left)=0):=hc;rw [if_neg hc,if_neg hc'];rfl
 ·congr 1
  ·by_cases hc:c2 x
   ·have hc' :3≤x.left.getD (AB x.left) 0∧BZ x.so.getLast? (AB x.left)≠1:=hc;rw [if_pos hc,if_pos hc']
   ·have hc' :¬(3≤x.left.getD (AB x.left) 0∧BZ x.so.getLast? (AB x.left)≠1):=hc;rw [if_neg hc,if_neg hc'];rfl
  ·by_cases hc:c3 s x
   ·have hc' :AT s (AB x.left)=true∧0<x.left.getD (AB x.left+1) 0∧0<x.left.getD (AB x.left+2) 0:=hc;rw [if_pos hc,if_pos hc']
   ·have hc' :¬(AT s (AB x.left)=true∧0<x.left.getD (AB x.left+1) 0∧0<x.left.getD (AB x.left+2) 0):=hc;rw [if_neg hc,if_neg hc'];rfl
theorem Rc (s:AL) (f:Nat) (x:Sx) (h:AB x.left=x.left.length):DT s (f+1) x=if x.pd=true then [CX x.so] else []:=by
 show (Ef (AT s) (f+1) x.left x.so.getLast? x.pd).map _=_;rw [Ef,if_pos h];split<;>simp
theorem ZS (out:List (List Gp)) (w:List Gp) (i:Nat) (e e' :AV) (h:(out.map (AX false)++[AX true w])[i]? =some e) (h' :((out++[w]).map (AX false))[i]? =some e'):e.cs=[e]∧e'.cs=[e']∧An e e' :=by
 rw [List.map_append] at h';by_cases hi:i<out.length
 ·rw [List.getElem?_append_left (by simpa using hi)] at h h';rw [h] at h';injection h' with h'
  subst h';rw [List.getElem?_map] at h;cases hx:out[i]? with
  | none=>rw [hx] at h;cases h
  | some y=>rw [hx] at h;simp at h;subst h;exact ⟨rfl,rfl,An.rfl'⟩
 ·rw [List.getElem?_append_right (by simp;omega)] at h h';simp only [List.length_map,List.map_cons,List.map_nil] at h h';cases hm:i-out.length with
  | zero=>rw [hm] at h h';simp at h h';subst h h';exact ⟨rfl,rfl,An.sl _ _ _⟩
  | succ m=>rw [hm] at h;simp at h
structure N5 (s:AL) (x:Sx) (wh:Int):Prop where
 gr:Ak s wh (AB x.left)=0
 inb:D8 x.left.length (AI wh (AB x.left))
 ct:∀i,Cz (AI wh (AB x.left)) i≤x.left.getD i 0
 low:∀z∈AI wh (AB x.left),(AB x.left:Int)≤z
 pos:0<(AI wh (AB x.left)).length
theorem TA {s:AL} {f k:Nat} {x:Sx} (h:FP s f k x) (hq:AB x.left<x.left.length) (hc:2≤x.left.getD (AB x.left) 0):N5 s x 4 where
 gr:=by unfold Ak;rw [if_neg (by omega),if_neg (by have:=h.ln;omega),if_neg (by simp)]
 inb z hz:=by simp [AI] at hz;omega
 ct i:=by
  have:=h.sb i;have e:Cz (AI 4 (AB x.left)) i=if (AB x.left:Int)=(i:Int) then 2 else 0:=by rw [show AI 4 (AB x.left)=[(AB x.left:Int),(AB x.left:Int)] by simp [AI],BW,BW];simp only [Cz];split<;>simp
  rw [e];split
  ·rename_i hi;have:AB x.left=i:=by omega
   subst this;exact hc
  ·exact this.1
 low z hz:=by simp [AI] at hz;omega
 pos:=by simp [AI]
theorem Sk {s:AL} {f k:Nat} {x:Sx} (h:FP s f k x) (hq:AB x.left<x.left.length) (hc:3≤x.left.getD (AB x.left) 0):N5 s x 2 where
 gr:=by unfold Ak;rw [if_neg (by omega),if_neg (by have:=h.ln;omega),if_neg (by simp)]
 inb z hz:=by simp [AI] at hz;omega
 ct i:=by
  have:=h.sb i;have e:Cz (AI 2 (AB x.left)) i=if (AB x.left:Int)=(i:Int) then 3 else 0:=by rw [show AI 2 (AB x.left)=[(AB x.left:Int),(AB x.left:Int),(AB x.left:Int)] by simp [AI],BW,BW,BW];simp only [Cz];split<;>simp
  rw [e];split
  ·rename_i hi;have:AB x.left=i:=by omega
   subst this;exact hc
  ·exact this.1
 low z hz:=by simp [AI] at hz;omega
 pos:=by simp [AI]
theorem SO {s:AL} {f k:Nat} {x:Sx} (h:FP s f k x) (hq:AB x.left<x.left.length) (hr:AT s (AB x.left)=true) (h1:0<x.left.getD (AB x.left+1) 0) (h2:0<x.left.getD (AB x.left+2) 0):N5 s x 1 where
 gr:=by unfold Ak;rw [if_neg (by omega),if_neg (by have:=h.ln;omega),if_neg (by simp [hr])]
 inb z hz:=by have:=Ct hr;have:=h.ln;simp [AI] at hz;omega
 ct i:=by
  have hb:=h.sb i;have h0:=Bu x.left hq;have h00:=(h.sb (AB x.left)).1;have e:Cz (AI 1 (AB x.left)) i=if (AB x.left:Int)=(i:Int)∨(AB x.left:Int)+1=(i:Int)∨(AB x.left:Int)+2=(i:Int) then 1 else 0:=B9 (AB x.left) false i
  rw [e];split
  ·rename_i hi;rcases hi with hi|hi|hi
   ·have:AB x.left=i:=by omega
    subst this;omega
   ·have:AB x.left+1=i:=by omega
    subst this;omega
   ·have:AB x.left+2=i:=by omega
    subst this;omega
  ·exact hb.1
 low z hz:=by simp [AI] at hz;omega
 pos:=by simp [AI]
theorem N5.next {s:AL} {f k:Nat} {x:Sx} {wh:Int} (w:N5 s x wh) (h:FP s (f+1) k x) (pd:Bool) (gs go:Nat):FP s f (AB x.left) ⟨Ah x.left (AI wh (AB x.left)),pd,x.so++[gp wh (AB x.left)],[],gs,go⟩ :=
 h.next (gp wh (AB x.left)) pd gs go rfl w.inb w.ct w.low w.pos
theorem IS (s:AL) (f:Nat) (left:List Int) (pd:Bool) (so junk:List Gp) (gs go:Nat) {j:Nat} (hq:AB left=j) {last:Int} (hl:BZ so.getLast? j=last):Li s f ⟨left,pd,so,junk,gs,go⟩=if 2≤left.getD j 0∧pd=false∧last=0 then DT s f ⟨Ah left (AI 4 j),true,so++[gp 4 j],[],0,0⟩ else []:=by
 subst hq hl;unfold Li;by_cases hc:c1 ⟨left,pd,so,junk,gs,go⟩
 ·have hc' :2≤left.getD (AB left) 0∧pd=false∧BZ so.getLast? (AB left)=0:=hc;rw [if_pos hc,if_pos hc']
 ·have hc' :¬(2≤left.getD (AB left) 0∧pd=false∧BZ so.getLast? (AB left)=0):=hc;rw [if_neg hc,if_neg hc']
theorem Ib (s:AL) (f:Nat) (left:List Int) (pd:Bool) (so junk:List Gp) (gs go:Nat) {j:Nat} (hq:AB left=j) {last:Int} (hl:BZ so.getLast? j=last):Lq s f ⟨left,pd,so,junk,gs,go⟩=if 3≤left.getD j 0∧last≠1 then DT s f ⟨Ah left (AI 2 j),pd,so++[gp 2 j],[],0,0⟩ else []:=by
 subst hq hl;unfold Lq;by_cases hc:c2 ⟨left,pd,so,junk,gs,go⟩
 ·have hc' :3≤left.getD (AB left) 0∧BZ so.getLast? (AB left)≠1:=hc;rw [if_pos hc,if_pos hc']
 ·have hc' :¬(3≤left.getD (AB left) 0∧BZ so.getLast? (AB left)≠1):=hc;rw [if_neg hc,if_neg hc']
theorem Ij (s:AL) (f:Nat) (left:List Int) (pd:Bool) (so junk:List Gp) (gs go:Nat) {j:Nat} (hq:AB left=j):MY s f ⟨left,pd,so,junk,gs,go⟩=if AT s (j:Int)=true∧0<left.getD (j+1) 0∧0<left.getD (j+2) 0 then DT s f ⟨Ah left (AI 1 j),pd,so++[gp 1 j],[],0,0⟩ else []:=by
 subst hq;unfold MY;by_cases hc:c3 s ⟨left,pd,so,junk,gs,go⟩
 ·have hc' :AT s (AB left:Int)=true∧0<left.getD (AB left+1) 0∧0<left.getD (AB left+2) 0:=hc;rw [if_pos hc,if_pos hc']
 ·have hc' :¬(AT s (AB left:Int)=true∧0<left.getD (AB left+1) 0∧0<left.getD (AB left+2) 0):=hc;rw [if_neg hc,if_neg hc']
end Go.Proofs.YthblfhgofopcaaaGreat
