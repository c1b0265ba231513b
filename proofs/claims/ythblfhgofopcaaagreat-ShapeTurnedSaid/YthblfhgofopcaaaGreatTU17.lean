/-
  Parts of the proof: Aok.
-/
import Derived.Test.YthblfhgofopcaaaGreatTU16
import Derived.Test.YthblfhgofopcaaaGreatTU14
set_option linter.all false
namespace Go.Proofs.YthblfhgofopcaaaGreat
section
variable {n:Nat} {rn:Int→Bool}
theorem OR (hr:C7 n rn):∀(f m:Nat) (bag:List Int),Bg n bag→bag.sum≤3*(m:Int)+2→(Cc rn f bag).length≤2 ^ m
 | 0,m,bag,_,_=>Nat.zero_le _
 | f+1,m,bag,hb,hs=>by
  by_cases hk:AB bag=bag.length
  ·unfold Cc;rw [if_pos hk];exact Nat.one_le_two_pow
  ·have hkl:AB bag<n:=by have:=BG bag;have:=hb.1;omega
   rw [La rn f bag hk];have step:∀g∈ES rn (AB bag),∀out,(Co rn f bag out g).length≤out.length+(if m=0 then 0 else 2 ^ (m-1)):=fun g hg out=>by
    have hM:=KK hg hkl;have hin:D8 bag.length (AI g.wh g.kd):=by rw [hb.1];exact hM.tiles hr
    have hl3:=hM.len;unfold Co;rcases C5 _ bag hin hb.2 with ⟨h1,h2⟩|⟨h1,_⟩
    ·rw [h1];have hbd:=hb.dec (by rw [←hb.1];exact hin) h2;have hsum:=Ck _ bag hin;have h0:=DQ hbd.2;cases m with
     | zero=>exfalso;omega
     | succ m =>
      have ih:=OR hr f m _ hbd (by omega);refine Nat.le_trans (DR _ _) ?_;rw [if_neg (by omega)];simpa using ih
    ·rw [h1];exact Nat.le_add_right _ _
   have h2:2*(if m=0 then 0 else 2 ^ (m-1))≤2 ^ m:=by
    cases m with
    | zero=>simp
    | succ m=>rw [if_neg (by omega),Nat.pow_succ];simp;omega
   cases hc:rn (AB bag) with
   | true =>
    have hG:ES rn (AB bag)=[gp 2 (AB bag),gp 1 (AB bag)]:=by simp [ES,hc]
    rw [hG] at step ⊢;have s1:=step (gp 2 (AB bag)) (by simp) [];have s2:=step (gp 1 (AB bag)) (by simp) (Co rn f bag [] (gp 2 (AB bag)));simp only [List.foldl_cons,List.foldl_nil];simp only [List.length_nil] at s1;omega
   | false =>
    have hG:ES rn (AB bag)=[gp 2 (AB bag)]:=by simp [ES,hc]
    rw [hG] at step ⊢;have s1:=step (gp 2 (AB bag)) (by simp) [];simp only [List.foldl_cons,List.foldl_nil];simp only [List.length_nil] at s1;omega
theorem R0 (hr:C7 n rn) {f:Nat} {bag:List Int} (hb:Bg n bag) (hs:bag.sum≤14):(Eg rn f bag).length≤bag.length*16:=by
 have key:∀k,k≤bag.length→((List.range k).foldl (Dh rn f bag) []).length≤k*16:=fun k=>by
  induction k with
  | zero=>intro _;simp
  | succ k ih =>
   intro hk;have ih:=ih (by omega);rw [Sm];obtain ⟨o,ho⟩:∃o,(List.range k).foldl (Dh rn f bag) []=o:=⟨_,rfl⟩;rw [ho] at ih ⊢;unfold Dh;split
   ·omega
   ·have hin:D8 bag.length [(k:Int),(k:Int)]:=fun z hz=>by simp at hz;omega
    rcases C5 _ bag hin hb.2 with ⟨h1,h2⟩|⟨h1,_⟩
    ·rw [h1];have hbd:=hb.dec (by rw [←hb.1];exact hin) h2;have hsum:=Ck _ bag hin;have hm:=OR hr f 4 _ hbd (by simp at hsum;omega);have:=DR (g:=gp 4 k) (Cc rn f (Ah bag [(k:Int),(k:Int)])) o;dsimp only;omega
    ·rw [h1];dsimp only;omega
 exact key bag.length (Nat.le_refl _)
end
theorem Ey {s:AL} {w k:Int} (hw:w=2∨w=4∨w=5) (h0:0≤k) (h1:k<AY s):Ak s w k=0:=by
 unfold Ak;rw [if_neg (by omega),if_neg (by omega),if_neg (by omega)]
theorem X9 {s:AL} {n:Nat} (hn:(n:Int)=AY s) {bag:List Int} {x:List Gp} (h:Hu n (AT s) bag x):∀g∈x,Ak s g.wh g.kd=0:=fun g hg=>by
 rcases h.me g hg with h|h
 ·obtain ⟨_,h0,h1,h2⟩:=h;rcases h2 with e|⟨e,hr⟩
  ·rw [e];exact Ey (.inl rfl) h0 (by omega)
  ·unfold Ak;rw [e,if_neg (by omega),if_neg (by omega),if_neg (by simp [hr])]
 ·obtain ⟨_,h0,h1,h2⟩:=h;rw [h2];exact Ey (.inr (.inl rfl)) h0 (by omega)
theorem UP {bag:List Int} {g:Gp}:∀{k:Nat},g∈DH bag k→∃j:Nat,j<k∧g=gp 5 j
 | 0,h=>by cases h
 | k+1,h=>by
  rw [DH] at h;rcases List.mem_append.1 h with h|h
  ·obtain ⟨j,hj,e⟩:=UP h;exact ⟨j,by omega,e⟩
  ·exact ⟨k,by omega,List.eq_of_mem_replicate h⟩
theorem UI {bag:List Int} (hb:∀i,0≤bag.getD i 0):∀k,k≤bag.length→((DH bag k).length:Int)=(bag.take k).sum
 | 0,_=>by simp [DH]
 | k+1,h=>by
  have ih:=UI hb k (by omega);have h0:=hb k;rw [DH,List.length_append,List.length_replicate,D9 bag (by omega)];have e:bag.getD k 0=bag[k]'(by omega):=by simp [show k<bag.length by omega]
  rw [e] at h0 ⊢;omega
theorem Rp {bag:List Int} {g:Gp}:∀{k:Nat},g∈ET bag k→∃j:Nat,j<k∧(g=gp 5 j∨g=gp 4 j)
 | 0,h=>by cases h
 | k+1,h=>by
  rw [ET] at h;rcases List.mem_append.1 h with h|h
  ·obtain ⟨j,hj,e⟩:=Rp h;exact ⟨j,by omega,e⟩
  ·split at h
   ·simp at h;exact ⟨k,by omega, .inl h⟩
   ·split at h
    ·simp at h;exact ⟨k,by omega, .inr h⟩
    ·cases h
theorem Qr {bag:List Int} {g:Gp}:∀{k:Nat},g∈FB bag k→∃j:Nat,j<k∧g=gp 4 j
 | 0,h=>by cases h
 | k+1,h=>by
  rw [FB] at h;rcases List.mem_append.1 h with h|h
  ·obtain ⟨j,hj,e⟩:=Qr h;exact ⟨j,by omega,e⟩
  ·exact ⟨k,by omega,List.eq_of_mem_replicate h⟩
theorem Yd {bag:List Int} (hb:∀i,0≤bag.getD i 0) (he:∀i,i<bag.length→bag.getD i 0 % 2=0):∀k,k≤bag.length→2*((FB bag k).length:Int)=(bag.take k).sum
 | 0,_=>by simp [FB]
 | k+1,h=>by
  have ih:=Yd hb he k (by omega);have h0:=hb k;have h1:=he k (by omega);rw [FB,List.length_append,List.length_replicate,D9 bag (by omega)];have e:bag.getD k 0=bag[k]'(by omega):=by simp [show k<bag.length by omega]
  rw [e] at h0 h1 ⊢;omega
theorem Tx {bag:List Int} (hb:∀i,0≤bag.getD i 0) (he:∀i,i<bag.length→bag.getD i 0≤2):∀k,k≤bag.length→(bag.take k).sum≤2*((ET bag k).length:Int)
 | 0,_=>by simp [ET]
 | k+1,h=>by
  have ih:=Tx hb he k (by omega);have h0:=hb k;have h1:=he k (by omega);rw [ET,List.length_append,D9 bag (by omega)];have e:bag.getD k 0=bag[k]'(by omega):=by simp [show k<bag.length by omega]
  rw [e] at h0 h1 ⊢;split
  ·simp;omega
  ·split
   ·simp;omega
   ·simp;omega
theorem Qq (l:List (List Gp)):∃S:List (List Gp),S.Perm l∧S.Pairwise fun a b=>BL a b≤0:=by
 refine ⟨l.mergeSort fun a b=>decide (BL a b≤0),List.mergeSort_perm ..,?_⟩;refine (List.pairwise_mergeSort (fun a b c h1 h2=> ?_) (fun a b=> ?_) l).imp fun h=>by simpa using h
 ·simp only [decide_eq_true_eq] at *;exact (En h1 h2).1
 ·have:=Dy a b;simp only [Bool.or_eq_true,decide_eq_true_eq];omega
theorem J8 (s:AL):Yx s []:=⟨by simp,fun x h=>by cases h⟩
theorem PH {s:AL} {x:List Gp} (h0:0<x.length) (h1:x.length≤100) (h2:∀g∈x,Ak s g.wh g.kd=0):Yx s [x]:=⟨by simp,fun y h=>by simp at h;subst h;exact ⟨h0,h1,h2⟩⟩
theorem Nm {s:AL} {f:Fm} {h:Hd} (hf:Az s f=0) (hU:Am s h=true):Yx s (Hf s h f):=by
 obtain ⟨ho,hsum⟩:=Pt hU;have F:=Nf hf;have V:=AU ho.va;have hme:=V.me;have hco:=V.co;have hmm:=ho.mm;obtain ⟨b1,b2,b3⟩:=Mx ho.va ho.cn;have hK:AY s≤60:=by have:=Bd s;omega
 have nw:=F.nw;have hw:=F.wh;unfold Cs at nw;have hr:C7 h.bag.length (AT s):=fun k h=>by have:=Ct h;omega
 have hbg:Bg h.bag.length h.bag:=⟨rfl,fun i=>(b1 i).1⟩;have hb0:∀i,0≤h.bag.getD i 0:=fun i=>(b1 i).1
 unfold Hf;by_cases hm:(h.me.length:Int)≤He s f
 ·rw [if_pos hm];unfold He at hm;have sgl1:Yx s [Hp h.bag]:=by
   have hl:=UI hb0 h.bag.length (Nat.le_refl _);rw [List.take_length] at hl;refine PH (by unfold Hp;omega) (by unfold Hp;omega) fun g hg=> ?_
   obtain ⟨j,hj,rfl⟩:=UP hg;exact Ey (.inr (.inr rfl)) (by simp) (by simp;omega)
  unfold QP;have hw' :f.wh=1∨f.wh=2∨f.wh=3∨f.wh=4∨f.wh=5∨f.wh=6:=by omega
  rcases hw' with hw|hw|hw|hw|hw|hw<;>rw [hw] at hm ⊢
  ·rw [if_pos rfl];refine ⟨Nat.le_trans (R0 hr hbg (by omega)) (by omega),fun x hx=> ?_⟩;have hx:=((Fb hr hbg (f:=20) (by omega)).2 x).1 hx;have hl:=hx.len hr hbg;have hp:=hx.pr;have:x.countP (fun g=>g.wh==4)≤x.length:=List.countP_le_length;exact ⟨by omega,by omega,X9 (by omega) hx⟩
  ·rw [if_neg (by decide),if_pos rfl];unfold EW;split
   ·exact J8 s
   ·rename_i hb;have he:∀i,i<h.bag.length→h.bag.getD i 0 % 2=0:=fun i hi=>by
     have e:h.bag.getD i 0=h.bag[i]:=by simp [hi]
     have:Iy f.ag h.bag[i]=false:=by
      cases hc:Iy f.ag h.bag[i] with
      | false=>rfl
      | true=>exact absurd (EX hi hc) hb
     unfold Iy at this;simp only [Bool.or_eq_false_iff,decide_eq_false_iff_not] at this;rw [e];omega
    have hl:=Yd hb0 he h.bag.length (Nat.le_refl _);rw [List.take_length] at hl;refine PH (by unfold g7;omega) (by unfold g7;omega) fun g hg=> ?_
    obtain ⟨j,hj,rfl⟩:=Qr hg;exact Ey (.inr (.inl rfl)) (by simp) (by simp;omega)
  ·rw [if_neg (by decide),if_neg (by decide),if_pos rfl];unfold I9;split
   ·rename_i hg;have hg:=IV.1 hg;have hl:=Tx hb0 (fun i hi=>(hg i hi).2) h.bag.length (Nat.le_refl _);rw [List.take_length] at hl;have hl2:=NL h.bag h.bag.length;have hs:=(BV (ET h.bag h.bag.length)).length_eq;refine PH (by omega) (by omega) fun g hg=> ?_
    obtain ⟨j,hj,e⟩:=Rp ((BV _).subset hg);rcases e with rfl|rfl
    ·exact Ey (.inr (.inr rfl)) (by simp) (by simp;omega)
    ·exact Ey (.inr (.inl rfl)) (by simp) (by simp;omega)
   ·exact J8 s
  ·rw [if_neg (by decide),if_neg (by decide),if_neg (by decide),if_pos rfl];unfold Gm;split
   ·exact sgl1
   ·exact J8 s
  ·rw [if_neg (by decide),if_neg (by decide),if_neg (by decide),if_neg (by decide),if_pos rfl];have h9:s.su=[9,9,9]:=by
    by_cases h:s.su=[9,9,9]
    ·exact h
    ·exact absurd (.inr (.inr (.inr (.inr (.inl ⟨hw, .inl h⟩))))) nw
   have h27:27≤h.bag.length:=by
    have h1:=F1 ho.va;have h2:=V.wi;have h3:=V.dr;have:AQ s=s.wi+s.dr+27:=by unfold AQ;rw [h9];rfl
    omega
   obtain ⟨S,p1,p2⟩:=Qq (Ln (AT s) 20 JR h.bag);have e:=X6 hr hbg (by omega) (fun w hw=>by
    obtain ⟨a,b,c,rfl,ha,hb,hc⟩:=Gq w hw
    exact ⟨Qf ha hb hc,SW ha hb hc h27⟩) (fun a ha b hb e=>Td a ha b hb e) p1 p2
   rw [←e];have hW:∀w∈Au,(HK (AT s) 20 JR h.bag w).length≤960∧∀x∈HK (AT s) 20 JR h.bag w,0<x.length∧x.length≤100∧∀g∈x,Ak s g.wh g.kd=0:=fun w hw=>by
    obtain ⟨a,b,c,rfl,ha,hb,hc⟩:=Gq w hw;have hin:=SW (n:=h.bag.length) ha hb hc h27;have hnl:=P0 a b c;unfold HK;rcases C5 _ h.bag hin hb0 with ⟨h1,h2⟩|⟨h1,_⟩
    ·rw [h1];dsimp only;have hbd:=hbg.dec hin h2;have hsum2:=Ck _ h.bag hin;refine ⟨?_,fun x hx=> ?_⟩
     ·rw [List.length_map];refine Nat.le_trans (R0 hr hbd (by omega)) ?_;rw [Bn];omega
     ·obtain ⟨l,hl,rfl⟩:=List.mem_map.1 hx;have hx:=((Fb hr hbd (f:=20) (by omega)).2 l).1 hl;have hll:=hx.len hr hbd;have hsl:(KZ (JR [a,b,c])).length=9:=rfl;have hap:(l++KZ (JR [a,b,c])).length=l.length+9:=by rw [List.length_append,hsl]
      have hp:=hx.pr;have hcl:l.countP (fun g=>g.wh==4)≤l.length:=List.countP_le_length;refine ⟨by rw [hap];omega,by rw [hap];omega,fun g hg=> ?_⟩;rcases List.mem_append.1 hg with hg|hg
      ·exact X9 (by omega) hx g hg
      ·unfold KZ at hg;obtain ⟨z,hz,rfl⟩:=List.mem_map.1 hg;have:=hin z hz;show Ak s 5 z=0;exact Ey (.inr (.inr rfl)) this.1 (by omega)
    ·rw [h1];exact ⟨by simp,fun x hx=>by cases hx⟩
   refine ⟨?_,fun x hx=> ?_⟩
   ·rw [p1.length_eq];unfold Ln;have:∀l:List (List Int),(∀w∈l,w∈Au)→(l.flatMap (HK (AT s) 20 JR h.bag)).length≤l.length*960:=fun l=>by
     induction l with
     | nil=>intro _;simp
     | cons w l ih =>
      intro hl;have h1:=(hW w (hl w (by simp))).1;have h2:=ih fun x hx=>hl x (by simp [hx])
      rw [List.flatMap_cons,List.length_append,List.length_cons,Nat.succ_mul];omega
    have:=this Au (fun _ h=>h);rw [OT] at this;omega
   ·have:=p1.subset hx;unfold Ln at this;obtain ⟨w,hw,hx⟩:=List.mem_flatMap.1 this;exact (hW w hw).2 x hx
  ·rw [if_neg (by decide),if_neg (by decide),if_neg (by decide),if_neg (by decide),if_neg (by decide)];unfold Ni;split
   ·exact sgl1
   ·exact J8 s
 ·rw [if_neg hm];exact J8 s
end Go.Proofs.YthblfhgofopcaaaGreat
