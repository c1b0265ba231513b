/-
  Parts of the proof: Zb, PkA, VmEo, VmOb, VmOt, VmAt, VmAr.
-/
import Derived.Test.YthblfhgofopcaaaGreatSH08
import Derived.Test.YthblfhgofopcaaaGreatSH12
import Derived.Test.YthblfhgofopcaaaGreatSH11
set_option linter.all false
namespace Go.Proofs.YthblfhgofopcaaaGreat
open Go.RowKit
set_option maxRecDepth 100000
variable [DM] {f n:Nat} {fn:Func} {cd:Code} {ys:List AV} {hc:Hl} {R:AV→Hl→Prop}
theorem zb (hn : fn.ntmps = n) (h : AW Tryz.prog Fx n 0 (DD Tryz.prog Fx n) cd (Z4 Fx n fn.results.toList 0 R) ⟨0, EM 0 ys, []⟩) (hf : Tryz.prog.funcs[f]? = some fn := by rfl) (hnm : (fn.name == "runtime.NumGoroutine") = false := by rfl) (hb : fn.body = some cd := by rfl) (hy : ys.length ≤ n := by simp) : Bb Tryz.prog f ys [] R := by
 subst hn;exact Oy Ie (Xc Ie mixed _) hf hnm hb hy (fun p hp=>by cases hp) h
theorem zc (hn : fn.ntmps = n) (h : AW Tryz.prog Fx n 0 (DD Tryz.prog Fx n) cd (V1 Fx fn.results.toList 0 R) ⟨0, EM 0 ys, []⟩) (hf : Tryz.prog.funcs[f]? = some fn := by rfl) (hnm : (fn.name == "runtime.NumGoroutine") = false := by rfl) (hb : fn.body = some cd := by rfl) (hy : ys.length ≤ n := by simp) : Bb Tryz.prog f ys [] R := by
 subst hn;exact X7 Ie (Xc Ie mixed _) hf hnm hb hy (fun p hp=>by cases hp) h
theorem FL (ne : Nat) (hn : fn.ntmps = n) (h : AW Tryz.prog Fx n ne (DD Tryz.prog Fx n) cd (Z4 Fx n fn.results.toList ne R) ⟨64, EM 0 ys, hc⟩) (hf : Tryz.prog.funcs[f]? = some fn := by rfl) (hnm : (fn.name == "runtime.NumGoroutine") = false := by rfl) (hb : fn.body = some cd := by rfl) (hy : ys.length ≤ n := by simp) (hne : ∀ p ∈ hc, p.1 < ne := by simp) : Bb Tryz.prog f ys hc R := by
 subst hn;exact Oy Ie (Xc Ie mixed _) hf hnm hb hy hne h
end Go.Proofs.YthblfhgofopcaaaGreat

namespace Go.Proofs.YthblfhgofopcaaaGreat
open Go.RowKit
set_option maxRecDepth 100000
theorem fa:True:=trivial
theorem zE {p q:Prop} (hq:q) (h:(True→q)→p:=by
 intro hq
 first
  | (simp (decide:=true) only [go_sem,Ih,true_and,and_true,false_and,and_false,↓reduceIte,Nat.reduceAdd,Nat.reduceMul,Nat.reduceSub,List.length_map,List.map_cons,List.map_nil,List.length_cons,List.length_nil,List.getElem?_cons_zero,List.getElem?_cons_succ,Option.map_some,Option.map_none,Option.getD_some,Option.getD_none,List.drop_zero,List.take_zero,List.drop_succ_cons,List.take_succ_cons,Int.toNat_natCast,List.nil_append,List.cons_append,List.append_nil,List.toList_toArray,List.set_cons_zero,List.set_cons_succ,Nat.zero_add,Nat.add_zero,Int.toNat_zero,List.reduceReplicate,Int.reduceToNat,Int.reduceAdd,Int.reduceSub,Int.reduceMul,Int.reduceNeg,Int.ofNat_zero,Int.natCast_zero,Int.cast_ofNat_Int,Int.natCast_one,cond_true,cond_false,List.getElem?_nil,undef,Option.toList_some,Option.toList_none,List.all_nil,reduceCtorEq,implies_true,List.mem_nil_iff,List.not_mem_nil,List.mem_cons,or_false,false_or,forall_eq,forall_eq_or_imp,Int.natCast_nonneg,Int.ofNat_lt,Int.ofNat_le,decide_true,decide_false,Nat.lt_irrefl,beq_self_eq_true,true_or,or_true,fa];exact hq ⟨⟩)
  | fail):p:=h (fun _=>hq)
theorem AK {p:Prop} (h:p:=by
 first
  | (simp (decide:=true) only [go_sem,Ih,true_and,and_true,false_and,and_false,↓reduceIte,Nat.reduceAdd,Nat.reduceMul,Nat.reduceSub,List.length_map,List.map_cons,List.map_nil,List.length_cons,List.length_nil,List.getElem?_cons_zero,List.getElem?_cons_succ,Option.map_some,Option.map_none,Option.getD_some,Option.getD_none,List.drop_zero,List.take_zero,List.drop_succ_cons,List.take_succ_cons,Int.toNat_natCast,List.nil_append,List.cons_append,List.append_nil,List.toList_toArray,List.set_cons_zero,List.set_cons_succ,Nat.zero_add,Nat.add_zero,Int.toNat_zero,List.reduceReplicate,Int.reduceToNat,Int.reduceAdd,Int.reduceSub,Int.reduceMul,Int.reduceNeg,Int.ofNat_zero,Int.natCast_zero,Int.cast_ofNat_Int,Int.natCast_one,cond_true,cond_false,List.getElem?_nil,undef,Option.toList_some,Option.toList_none,List.all_nil,reduceCtorEq,implies_true,List.mem_nil_iff,List.not_mem_nil,List.mem_cons,or_false,false_or,forall_eq,forall_eq_or_imp,Int.natCast_nonneg,Int.ofNat_lt,Int.ofNat_le,decide_true,decide_false,Nat.lt_irrefl,beq_self_eq_true,true_or,or_true,fa];done)
  | fail):p:=h
theorem zF {p q:Prop} (hq:q) (h:(True→q)→p:=by
 intro hq
 first
  | (simp (decide:=true) (disch:=omega) only [go_sem,true_and,and_true,false_and,and_false,↓reduceIte,Nat.reduceAdd,Nat.reduceMul,Nat.reduceSub,List.length_map,List.map_cons,List.map_nil,List.length_cons,List.length_nil,List.getElem?_cons_zero,List.getElem?_cons_succ,Option.map_some,Option.map_none,Option.getD_some,Option.getD_none,List.drop_zero,List.take_zero,List.drop_succ_cons,List.take_succ_cons,Int.toNat_natCast,List.nil_append,List.cons_append,List.append_nil,List.toList_toArray,List.set_cons_zero,List.set_cons_succ,Nat.zero_add,Nat.add_zero,Int.toNat_zero,List.reduceReplicate,Int.reduceToNat,Int.reduceAdd,Int.reduceSub,Int.reduceMul,Int.reduceNeg,Int.ofNat_zero,Int.natCast_zero,Int.cast_ofNat_Int,Int.natCast_one,cond_true,cond_false,List.getElem?_nil,undef,Option.toList_some,Option.toList_none,List.all_nil,reduceCtorEq,implies_true,List.mem_nil_iff,List.not_mem_nil,List.mem_cons,or_false,false_or,forall_eq,forall_eq_or_imp,Int.natCast_nonneg,Int.ofNat_lt,Int.ofNat_le,decide_true,decide_false,Nat.lt_irrefl,beq_self_eq_true,true_or,or_true,Ih,Al,nW,mO,pI,nH,oB,lR,fa];exact hq ⟨⟩)
  | fail):p:=h (fun _=>hq)
theorem wI {p:Prop} (h:p:=by
 first
  | (simp (decide:=true) (disch:=omega) only [go_sem,true_and,and_true,false_and,and_false,↓reduceIte,Nat.reduceAdd,Nat.reduceMul,Nat.reduceSub,List.length_map,List.map_cons,List.map_nil,List.length_cons,List.length_nil,List.getElem?_cons_zero,List.getElem?_cons_succ,Option.map_some,Option.map_none,Option.getD_some,Option.getD_none,List.drop_zero,List.take_zero,List.drop_succ_cons,List.take_succ_cons,Int.toNat_natCast,List.nil_append,List.cons_append,List.append_nil,List.toList_toArray,List.set_cons_zero,List.set_cons_succ,Nat.zero_add,Nat.add_zero,Int.toNat_zero,List.reduceReplicate,Int.reduceToNat,Int.reduceAdd,Int.reduceSub,Int.reduceMul,Int.reduceNeg,Int.ofNat_zero,Int.natCast_zero,Int.cast_ofNat_Int,Int.natCast_one,cond_true,cond_false,List.getElem?_nil,undef,Option.toList_some,Option.toList_none,List.all_nil,reduceCtorEq,implies_true,List.mem_nil_iff,List.not_mem_nil,List.mem_cons,or_false,false_or,forall_eq,forall_eq_or_imp,Int.natCast_nonneg,Int.ofNat_lt,Int.ofNat_le,decide_true,decide_false,Nat.lt_irrefl,beq_self_eq_true,true_or,or_true,Ih,Al,nW,mO,pI,nH,oB,lR,fa];done)
  | fail):p:=h
theorem zV {p:Prop} (h:p:=by
 first
  | (first | exact AK | (refine zE ?_;rfl) | rfl | trivial)
  | fail):p:=h
theorem zf {l:List (Nat×Nat)} (h1:(l.map (·.1)).Nodup:=by decide) (h2:(l.map (·.2)).Nodup:=by decide):C0 0 l:=BD h1 h2
theorem zg {ne:Nat} {l:List (Nat×Nat)} (h:C0 ne l:=by first | exact DK | exact zf | exact ⟨by decide,by decide,by decide⟩):C0 ne l:=h
theorem zM {K A:St→Prop} {σ:St} (hA:A σ) (h:∀σ,A σ→K σ:=by with_reducible assumption):K σ:=h σ hA
theorem vH {p q:Prop} (hq:q) (h:(True→q)→p:=by
 intro hq
 first
  | ((first | ((with_reducible refine M6 ?_);intro Jo AH;refine zE ?_;refine AH _ _ _ ?_;clear AH Jo) | ((with_reducible refine V2 ?_);(try simp (decide:=true) only [Cr,FK,↓reduceIte])) | ((with_reducible apply SM);rfl;intro Jo AH;refine zE ?_;refine AH _ _ _ _ ?_;clear AH Jo) | ((with_reducible refine eQ ?_);refine zE ?_) | (with_reducible refine fC ?_) | ((with_reducible apply Za tb);rfl;kernel_rfl) | (with_reducible refine MS ?_) | ((first | (with_reducible refine PU ?_) | (with_reducible refine FW ?_));(try simp (decide:=true) only [Cr,FK,↓reduceIte])) | ((with_reducible refine Nc ?_ ?_);exact rfl) | ((with_reducible refine MM ?_ ?_);exact rfl));exact hq ⟨⟩)
  | fail):p:=h (fun _=>hq)
theorem zG {p q:Prop} (hq:q) (h:(True→q)→p:=by
 intro hq
 first
  | (refine vH ?_;(repeat refine vH ?_);exact hq ⟨⟩)
  | fail):p:=h (fun _=>hq)
theorem Ym {p:Prop} (h:p:=by
 first
  | (first | exact AK | rfl | (refine zE ?_;rfl) | trivial)
  | fail):p:=h
theorem qR {p:Prop} (h:p:=by
 first
  | (first | exact Wh (by simp) | exact XT (by decide) (by simp) (by simp))
  | fail):p:=h
theorem oO {p:Prop} (h:p:=by
 first
  | (first | (apply Or.inl;exact Ym) | (apply Or.inr;exact Ym))
  | fail):p:=h
theorem zW {c p q:Prop} (ct:c) (hq:q) (h:c→(True→q)→p:=by
 intro ct hq
 first
  | ((with_reducible refine M6 ?_);intro Jo AH;refine zE ?_;refine Ap.says ct Ym oO (by intro q;exact Ym) ?_;(try refine zE ?_);refine AH _ _ _ ?_;clear AH Jo;exact hq ⟨⟩)
  | fail):p:=h ct (fun _=>hq)
theorem zD {c p q:Prop} (ct:c) (hq:q) (h:c→(True→q)→p:=by
 intro ct hq
 first
  | ((with_reducible apply SM);rfl;intro Jo AH;refine zE ?_;refine Cn.says ct Ym Ym oO (by intro q;exact Ym) ?_;(try refine zE ?_);refine AH _ _ _ _ ?_;clear AH Jo;exact hq ⟨⟩)
  | fail):p:=h ct (fun _=>hq)
theorem oC {c p q:Prop} (ct:c) (hq:q) (h:c→(True→q)→p:=by
 intro ct hq
 first
  | ((with_reducible refine M6 ?_);intro Jo AH;refine zE ?_;refine Ap.own ct Ym oO qR AK ?_;(try refine zE ?_);refine AH _ _ _ ?_;clear AH Jo;exact hq ⟨⟩)
  | fail):p:=h ct (fun _=>hq)
theorem vO {c p q:Prop} (ct:c) (hq:q) (h:c→(True→q)→p:=by
 intro ct hq
 first
  | ((with_reducible apply SM);rfl;intro Jo AH;refine zE ?_;refine Cn.own ct Ym Ym oO qR AK ?_;(try refine zE ?_);refine AH _ _ _ _ ?_;clear AH Jo;exact hq ⟨⟩)
  | fail):p:=h ct (fun _=>hq)
theorem DL {p q1 q2:Prop} (hq1:q1) (hq2:q2) (h:(True→q1)→(True→q2)→p:=by
 intro hq1 hq2
 first
  | (refine EH ?_;refine ⟨.inr rfl,?_,[],2,DK,?_⟩;(· exact hq1 ⟨⟩);(· exact hq2 ⟨⟩))
  | fail):p:=h (fun _=>hq1) (fun _=>hq2)
section
variable [DM]
def An (x x' :AV):Prop:=∀(c:Cx) (h:HF) (y:Value),AS c h x y→AS c h x' y
theorem An.rfl' {x:AV}:An x x:=fun _ _ _ h=>h
theorem An.eq {x x' :AV} (h:x=x'):An x x' :=h ▸ An.rfl'
theorem An.nil (f:Bool) (sz:Nat):An Bw (.sl f sz []):=fun _ _ _ h=>FX h
theorem An.low (x:AV):An x x.low:=fun c h y k=>k.low rfl fun f b hs=>⟨hs.1,hs.2.1,by rcases hs.2.2 with h | h | ⟨_,h⟩<;>simp [h]⟩
theorem An.sl (f:Bool) (sz:Nat) (es:List AV):An (.sl f sz es) (.sl false sz es):=fun c h y k=>by
 cases k with
 | slE _ _ A cap hc=>exact .slE false sz A cap hc
 | sl _ _ _ b o cap ys h1 h2 hs hz hc hr=>exact .sl false sz es b o cap ys h1 h2 ⟨hs.1,hs.2.1,by rcases hs.2.2 with h | h | ⟨_,h⟩<;>simp [h]⟩ hz hc hr
theorem An.any (x:AV):An x .any:=fun _ _ y _=> .any y
theorem An.trans {x y z:AV} (h1:An x y) (h2:An y z):An x z:=fun c h v k=>h2 c h v (h1 c h v k)
inductive Y6:List (Nat×AV)→List (Nat×AV)→Prop
 | nil:Y6 [] []
 | cons {t:Nat} {x x' :AV} {l l' :List (Nat×AV)}:An x x' →Y6 l l' →Y6 ((t,x)::l) ((t,x')::l')
theorem Y6.lk {l l' :List (Nat×AV)} (h:Y6 l l') (t:Nat):An (lk l .any t) (lk l' .any t):=by
 induction h with
 | nil=>exact .rfl'
 | cons hx _ ih =>
  simp only [Go.Proofs.YthblfhgofopcaaaGreat.lk];split
  ·exact hx
  ·exact ih
theorem YQ {nt ne:Nat} {σ:St} {tm:List (Nat×AV)} (h:Y6 σ.tm tm) (nx:Nat):Wk nt ne σ ⟨nx,tm,σ.hp⟩:=fun c0 h0 c a _ _ r=>⟨c,rfl,⟨r.kp,r.hp,⟨r.fr.sz,r.fr.df,fun t=>h.lk t _ _ _ (r.fr.tm t)⟩⟩⟩
def eT (σ:St) (tm:List (Nat×AV)) (hp:Hl):Prop:=Y6 σ.tm tm∧σ.hp=hp
variable {P:Program} {T:Dj} {nt ne:Nat} {D:List Oper→St→(St→Prop)→Prop} {Q:Exit→St→Prop} {σ:St}
theorem At {α:Type} {a:Code} (TM:α→List (Nat×AV)) (HP:α→Hl) (M:α→Nat) (Jb:α→Prop) (l0 l:List (Nat×Nat)) (d:Nat) (ts:List Nat) (nx:Nat) (hl0:C0 ne l0) (hl:C0 ne l) (x0:α) (h0:Jb x0) (hs:eT (Fj l0 d ts nx σ) (TM x0) (HP x0))
  (h:∀x,Jb x→∀K:St→Prop,SB nt ne K→(∀σ'' x',M x' <M x→Jb x' →eT (Fj l d ts nx σ'') (TM x') (HP x')→K σ'')→AW P T nt ne D a (Cr K Q) ⟨nx,TM x,HP x⟩):AW P T nt ne D (.loop a) Q σ:=by
 have see:∀σ l,C0 ne l→∀x,eT (Fj l d ts nx σ) (TM x) (HP x)→Wk nt ne σ ⟨nx,TM x,HP x⟩:=fun σ l hl x k=>by
  have:=(HH (nt:=nt) (σ:=σ) (d:=d) (nx:=nx) (ts:=ts) hl).trans (YQ k.1 nx);rw [k.2] at this;exact this
 refine ⟨fun m σ=>∃x,Jb x∧m=M x∧σ=⟨nx,TM x,HP x⟩,⟨M x0,_,see σ l0 hl0 x0 hs,x0,h0,rfl,rfl⟩,?_⟩;rintro m σ' ⟨x,hx,rfl,rfl⟩;exact h x hx _ ⟨fun _ _ hw ⟨n',σ0,h1,h2,h3⟩=>⟨n',σ0,h1,hw.trans h2,h3⟩⟩ fun σ'' x' hm hi hse=>⟨M x',_,hm,see σ'' l hl x' hse,x',hi,rfl,rfl⟩
theorem A8 {α:Type} {a:Code} {σ0:St} (hw:Wk nt ne σ σ0) (TM:α→List (Nat×AV)) (HP:α→Hl) (M:α→Nat) (Jb:α→Prop) (l0 l:List (Nat×Nat)) (d:Nat) (ts:List Nat) (nx:Nat) (hl0:C0 ne l0) (hl:C0 ne l) (x0:α) (h0:Jb x0) (hs:eT (Fj l0 d ts nx σ0) (TM x0) (HP x0))
  (h:∀x,Jb x→∀K:St→Prop,SB nt ne K→(∀σ'' x',M x' <M x→Jb x' →eT (Fj l d ts nx σ'') (TM x') (HP x')→K σ'')→AW P T nt ne D a (Cr K Q) ⟨nx,TM x,HP x⟩):AW P T nt ne D (.loop a) Q σ:=by
 have h2:=At (σ:=σ0) TM HP M Jb l0 l d ts nx hl0 hl x0 h0 hs h;obtain ⟨I,⟨n,σ1,hw1,hI⟩,hr⟩:=h2;exact ⟨I,⟨n,σ1,hw.trans hw1,hI⟩,hr⟩
theorem SB.frz {K:St→Prop} {b:Code} (hc:SB nt ne K) (hK:∀σ,AW P T nt ne D b Q σ→K σ) (l:List (Nat×Nat)) (d:Nat) (ts:List Nat) (nx:Nat) (hl:C0 ne l) (σ:St) (tm:List (Nat×AV)) (hp:Hl) (hs:eT (Fj l d ts nx σ) tm hp) (h:AW P T nt ne D b Q ⟨nx,tm,hp⟩):K σ:=by
 refine hc.w _ _ ((HH (d:=d) (nx:=nx) (ts:=ts) hl).trans (YQ hs.1 nx)) ?_;rw [hs.2];exact hK _ h
theorem jJ {r g sz:Nat} {es es' :List AV} (hr:Go.Proofs.YthblfhgofopcaaaGreat.lk σ.hp .nil r= .arr g sz es) (hl:es'.length=es.length) (he:∀(i:Nat) (e e' :AV),es[i]? =some e→es'[i]? =some e' →e.cs=[e]∧e'.cs=[e']∧An e e'):Wk nt ne σ ⟨σ.nx,σ.tm,(r, .arr g sz es')::σ.hp⟩:=fun c0 h0 c a _ _ k=>by
 have e2:Go.Proofs.YthblfhgofopcaaaGreat.lk ((r,Ob.arr g sz es')::σ.hp) .nil=Bc [(r, .arr g sz es')] (Go.Proofs.YthblfhgofopcaaaGreat.lk σ.hp .nil):=by
  funext s;by_cases hs:r=s
  ·subst hs;simp [Go.Proofs.YthblfhgofopcaaaGreat.lk,Bc]
  ·simp [Go.Proofs.YthblfhgofopcaaaGreat.lk,Bc,hs,Ne.symm hs]
 have old:∀(i:Nat) (e' :AV),es'[i]? =some e' →∃e,es[i]? =some e:=fun i e' h=>by
  have:=(List.getElem?_eq_some_iff.1 h).1;exact ⟨_,List.getElem?_eq_getElem (by omega)⟩
 cases hrl:c.rl r with
 | true =>
  obtain ⟨cs,ty,a1,a2,a3,a4⟩:=k.hp.ar r g sz es hr hrl;obtain ⟨K,H,_⟩:=E6 k.hp (g' :=g) (es' :=es') hr hrl a1 rfl (Nat.le_refl _) (by rw [hl];exact a2) (fun i e' h=>by
    obtain ⟨e,h1⟩:=old i e' h
    obtain ⟨c1,c2,_⟩:=he i e e' h1 h
    have:=a3 i e h1
    rw [c1] at this;rw [c2];exact this) (fun i e' j u h hj=>by
    obtain ⟨e,h1⟩:=old i e' h
    obtain ⟨c1,c2,hle⟩:=he i e e' h1 h
    rw [c2] at hj
    have hj0:j=0:=by have:=(List.getElem?_eq_some_iff.1 hj).1;simp at this;exact this
    subst hj0
    simp at hj;subst hj
    obtain ⟨y,hy,hv⟩:=a4 i e 0 e h1 (by rw [c1];rfl)
    exact ⟨y,hy,hle _ _ _ hv⟩) c.w (fun _ _=>rfl) a1 rfl rfl rfl rfl rfl
  exact ⟨c,rfl,⟨by rw [e2];exact k.kp.trans K,by rw [e2];exact H,⟨k.fr.sz,k.fr.df,fun t=>by rw [e2];exact (k.fr.tm t).ext K.ext⟩⟩⟩
 | false =>
  have h0:=k.hp.em r g sz es hr hrl;subst h0;have h1:es' =[]:=List.eq_nil_of_length_eq_zero hl;subst h1;have e3:Bc [(r,Ob.arr g sz [])] (Go.Proofs.YthblfhgofopcaaaGreat.lk σ.hp .nil)=Go.Proofs.YthblfhgofopcaaaGreat.lk σ.hp .nil:=by
   funext s;by_cases hs:s=r
   ·subst hs;simp [Bc,hr]
   ·simp [Bc,hs]
  exact ⟨c,rfl,⟨by rw [e2,e3];exact k.kp,by rw [e2,e3];exact k.hp,⟨k.fr.sz,k.fr.df,fun t=>by rw [e2,e3];exact k.fr.tm t⟩⟩⟩
theorem Ap.obj {f:Nat} {xs ys:List AV} {hc hp:Hl} {nm:Nat} {R:AV→Hl→Prop} {K:AV→Hl→Prop} (ρ:List Nat) (hC:Bb P f ys hc R) (hy:passL (E7 0 ρ) (Go.Proofs.YthblfhgofopcaaaGreat.lk hp .nil) xs=ys) (hh:D5 (E7 0 ρ) (Go.Proofs.YthblfhgofopcaaaGreat.lk hp .nil) 0 ρ=hc) (hn:ρ.Nodup) (ha:∀r∈ρ,∃g sz es,Go.Proofs.YthblfhgofopcaaaGreat.lk hp .nil r= .arr g sz es)
  (hb:nobL (E7 0 ρ) xs=true∧∀r∈ρ,∀g sz es,Go.Proofs.YthblfhgofopcaaaGreat.lk hp .nil r= .arr g sz es→nobL (E7 0 ρ) es=true) (h:∀x hl,R x hl→FU hl∧(∀p∈hl,ρ[p.1]? =none→Go.Proofs.YthblfhgofopcaaaGreat.lk hp .nil (nm+p.1)= .nil)∧K (x.ren (rn nm ρ)) (HT (rn nm ρ) hl hp)):Ap P f xs hp nm K:=by
 subst hy hh;exact ⟨ρ,false,R,hC,hn,ha, .inr hb,fun x hl hR=>⟨(h x hl hR).1,(fun hf=>by cases hf),(h x hl hR).2.1,(h x hl hR).2.2⟩⟩
end
section
variable [DM]
def LP:Ob→Bool
 | .arr .. =>true
 | _=>false
def iR (inv:Nat→Option Nat):Ob→Bool
 | .arr _ _ es=>nobL inv es
 | _=>true
@[go_sem] theorem iT (g sz:Nat) (es:List AV):LP (.arr g sz es)=true:=rfl
@[go_sem] theorem mK (inv:Nat→Option Nat) (g sz:Nat) (es:List AV):iR inv (.arr g sz es)=nobL inv es:=rfl
def Tg (_r:List Nat):Prop:=True
theorem tg (r:List Nat):Tg r:=trivial
def D3 (P:Program) (f:Nat) (ys:List AV) (hc:Hl) (v:AV) (hl:Hl):Prop:=Bb P f ys hc fun x h=>x=v∧h=hl
theorem Ap.objD {P:Program} {f:Nat} {xs ys:List AV} {hc hp hl:Hl} {v:AV} {nm:Nat} {K:AV→Hl→Prop} {ρ:List Nat} (_tg:Tg ρ) (hC:D3 P f ys hc v hl) (hy:passL (E7 0 ρ) (Go.Proofs.YthblfhgofopcaaaGreat.lk hp .nil) xs=ys) (hh:D5 (E7 0 ρ) (Go.Proofs.YthblfhgofopcaaaGreat.lk hp .nil) 0 ρ=hc) (hn:ρ.Nodup)
  (ha:(ρ.all fun r=>LP (Go.Proofs.YthblfhgofopcaaaGreat.lk hp .nil r))=true) (hb:(nobL (E7 0 ρ) xs&&ρ.all fun r=>iR (E7 0 ρ) (Go.Proofs.YthblfhgofopcaaaGreat.lk hp .nil r))=true) (hcl:FU hl)
  (hf:∀p∈hl,ρ[p.1]? =none→Go.Proofs.YthblfhgofopcaaaGreat.lk hp .nil (nm+p.1)= .nil) (h:K (v.ren (rn nm ρ)) (HT (rn nm ρ) hl hp)):Ap P f xs hp nm K:=by
 rw [Bool.and_eq_true,List.all_eq_true] at hb;rw [List.all_eq_true] at ha;refine Ap.obj ρ hC hy hh hn (fun r hr=> ?_) ⟨hb.1,fun r hr g sz es he=> ?_⟩ ?_
 ·have:=ha r hr;generalize Go.Proofs.YthblfhgofopcaaaGreat.lk hp .nil r=o at this;cases o with
  | arr g sz es=>exact ⟨_,_,_,rfl⟩
  | _=>cases this
 ·have:=hb.2 r hr;rw [he] at this;exact this
 ·rintro x hl' ⟨rfl,rfl⟩;exact ⟨hcl,hf,h⟩
theorem Cn.objD {P:Program} {f:Nat} {xs ys:List AV} {hc hp hl:Hl} {v:AV} {nm:Nat} {C:List Nat→Prop} {K:AV→Hl→Prop} {ρ:List Nat} (_tg:Tg ρ) (hC:D3 P f ys hc v hl) (hy:passL (E7 0 ρ) (Go.Proofs.YthblfhgofopcaaaGreat.lk hp .nil) xs=ys) (hh:D5 (E7 0 ρ) (Go.Proofs.YthblfhgofopcaaaGreat.lk hp .nil) 0 ρ=hc) (hn:ρ.Nodup)
  (ha:(ρ.all fun r=>LP (Go.Proofs.YthblfhgofopcaaaGreat.lk hp .nil r))=true) (hb:(nobL (E7 0 ρ) xs&&ρ.all fun r=>iR (E7 0 ρ) (Go.Proofs.YthblfhgofopcaaaGreat.lk hp .nil r))=true) (hc0:C ρ) (hcl:FU hl)
  (hf:∀p∈hl,ρ[p.1]? =none→p.1<16∧Go.Proofs.YthblfhgofopcaaaGreat.lk hp .nil (nm+p.1)= .nil) (h:K (v.ren (rn nm ρ)) (HT (rn nm ρ) hl hp)):Cn P f xs hp nm C K:=by
 rw [Bool.and_eq_true,List.all_eq_true] at hb;rw [List.all_eq_true] at ha;subst hy hh;refine ⟨ρ,false,_,hc0,hC,hn,fun r hr=> ?_, .inr ⟨hb.1,fun r hr g sz es he=> ?_⟩,?_⟩
 ·have:=ha r hr;generalize Go.Proofs.YthblfhgofopcaaaGreat.lk hp .nil r=o at this;cases o with
  | arr g sz es=>exact ⟨_,_,_,rfl⟩
  | _=>cases this
 ·have:=hb.2 r hr;rw [he] at this;exact this
 ·rintro x hl' ⟨rfl,rfl⟩;exact ⟨hcl,(fun h=>by cases h),hf,h⟩
def I1 (r g s nm gn sz:Nat) (es' :List AV) (σ:St):St:=⟨σ.nx,σ.tm,(r, .arr g s es')::(nm, .arr gn sz [])::σ.hp⟩
theorem YJ {nt ne:Nat} {σ:St} (r g s nm gn sz:Nat) {es es' :List AV} (h1:Go.Proofs.YthblfhgofopcaaaGreat.lk σ.hp .nil r= .arr g s es) (h0:es≠[]) (h2:Go.Proofs.YthblfhgofopcaaaGreat.lk σ.hp .nil nm= .nil) (hlen:es'.length=es.length)
  (hv:∀(i:Nat) (e e' :AV),es[i]? =some e→es'[i]? =some e' →e'.cs.length=e.cs.length∧∀(j:Nat) (u u' :AV),e.cs[j]? =some u→e'.cs[j]? =some u' →u' =u∨(u=Bw∧u' = .rsl nm gn 0 0)):Wk nt ne σ (I1 r g s nm gn sz es' σ):=fun c0 h0' c a he hn hr=>by
 obtain ⟨c',e,k,rh,v⟩:=Nh hr.hp h2 gn sz;have hne:r≠nm:=fun hq=>by rw [hq,h2] at h1;cases h1
 have hr1:Bc [(nm, .arr gn sz [])] (Go.Proofs.YthblfhgofopcaaaGreat.lk σ.hp .nil) r= .arr g s es:=by simp [Bc,hne,h1]
 have hl:c'.rl r=true:=by
  cases hl:c'.rl r with
  | true=>rfl
  | false=>exact absurd (rh.em r g s es hr1 hl) h0
 have old:∀(i:Nat) (e' :AV),es'[i]? =some e' →∃e,es[i]? =some e:=fun i e' h=>by
  have:=(List.getElem?_eq_some_iff.1 h).1;exact ⟨_,List.getElem?_eq_getElem (by omega)⟩
 obtain ⟨cs,ty,a1,a2,a3,a4⟩:=rh.ar r g s es hr1 hl;obtain ⟨k2,rh2,e2⟩:=E6 rh (g' :=g) (es' :=es') (cs' :=cs) hr1 hl a1 rfl (Nat.le_refl _) (by rw [hlen];exact a2) (fun i x hx=>by
   obtain ⟨e0,he0⟩:=old i x hx
   rw [(hv i e0 x he0 hx).1];exact a3 i e0 he0) (fun i x j u hx hj=>by
   obtain ⟨e0,he0⟩:=old i x hx
   obtain ⟨q1,q2⟩:=hv i e0 x he0 hx
   have hj0:j<e0.cs.length:=by have:=(List.getElem?_eq_some_iff.1 hj).1;omega
   have hu:=List.getElem?_eq_getElem hj0
   obtain ⟨y,hy,hvv⟩:=a4 i e0 j _ he0 hu
   refine ⟨y,hy,?_⟩
   rcases q2 j _ u hu hj with h | ⟨h,h'⟩
   ·rw [h];exact hvv
   ·rw [h] at hvv;rw [h',As hvv];exact v) c'.w (fun _ _=>rfl) a1 rfl rfl rfl rfl rfl
 have eh:Go.Proofs.YthblfhgofopcaaaGreat.lk (I1 r g s nm gn sz es' σ).hp .nil=Bc [(r, .arr g s es')] (Bc [(nm, .arr gn sz [])] (Go.Proofs.YthblfhgofopcaaaGreat.lk σ.hp .nil)):=by
  funext q;by_cases hq:r=q
  ·subst hq;simp [I1,Go.Proofs.YthblfhgofopcaaaGreat.lk,Bc]
  ·by_cases hq' :nm=q
   ·subst hq';simp [I1,Go.Proofs.YthblfhgofopcaaaGreat.lk,Bc,hq,Ne.symm hq]
   ·simp [I1,Go.Proofs.YthblfhgofopcaaaGreat.lk,Bc,hq,Ne.symm hq,hq',Ne.symm hq']
 refine ⟨_,e,⟨by rw [eh];exact hr.kp.trans (k.trans k2),by rw [eh];exact rh2,hr.fr.sz,hr.fr.df,fun q=> ?_⟩⟩;rw [eh];exact (hr.fr.tm q).ext (k.trans k2).ext
def Hn {α:Type} (P:Program) (f:Nat) (ys:List AV) (hc:Hl) (V:α→AV) (H:α→Hl) (ok:α→Prop):Prop:=Bb P f ys hc fun x h=>∃a,ok a∧x=V a∧h=H a
theorem Ap.objE {α:Type} {P:Program} {f:Nat} {xs ys:List AV} {hc hp:Hl} {V:α→AV} {H:α→Hl} {ok:α→Prop} {nm:Nat} {K:AV→Hl→Prop} {ρ:List Nat} (_tg:Tg ρ) (hC:Hn P f ys hc V H ok) (hy:passL (E7 0 ρ) (Go.Proofs.YthblfhgofopcaaaGreat.lk hp .nil) xs=ys) (hh:D5 (E7 0 ρ) (Go.Proofs.YthblfhgofopcaaaGreat.lk hp .nil) 0 ρ=hc) (hn:ρ.Nodup)
  (ha:(ρ.all fun r=>LP (Go.Proofs.YthblfhgofopcaaaGreat.lk hp .nil r))=true) (hb:(nobL (E7 0 ρ) xs&&ρ.all fun r=>iR (E7 0 ρ) (Go.Proofs.YthblfhgofopcaaaGreat.lk hp .nil r))=true) (hcl:∀a,FU (H a))
  (hf:∀a,∀p∈H a,ρ[p.1]? =none→Go.Proofs.YthblfhgofopcaaaGreat.lk hp .nil (nm+p.1)= .nil) (h:∀a,ok a→K ((V a).ren (rn nm ρ)) (HT (rn nm ρ) (H a) hp)):Ap P f xs hp nm K:=by
 rw [Bool.and_eq_true,List.all_eq_true] at hb;rw [List.all_eq_true] at ha;refine Ap.obj ρ hC hy hh hn (fun r hr=> ?_) ⟨hb.1,fun r hr g sz es he=> ?_⟩ ?_
 ·have:=ha r hr;generalize Go.Proofs.YthblfhgofopcaaaGreat.lk hp .nil r=o at this;cases o with
  | arr g sz es=>exact ⟨_,_,_,rfl⟩
  | _=>cases this
 ·have:=hb.2 r hr;rw [he] at this;exact this
 ·rintro x hl' ⟨a,ha,rfl,rfl⟩;exact ⟨hcl a,hf a,h a ha⟩
theorem Cn.objE {α:Type} {P:Program} {f:Nat} {xs ys:List AV} {hc hp:Hl} {V:α→AV} {H:α→Hl} {ok:α→Prop} {nm:Nat} {C:List Nat→Prop} {K:AV→Hl→Prop} {ρ:List Nat} (_tg:Tg ρ) (hC:Hn P f ys hc V H ok) (hy:passL (E7 0 ρ) (Go.Proofs.YthblfhgofopcaaaGreat.lk hp .nil) xs=ys) (hh:D5 (E7 0 ρ) (Go.Proofs.YthblfhgofopcaaaGreat.lk hp .nil) 0 ρ=hc) (hn:ρ.Nodup)
  (ha:(ρ.all fun r=>LP (Go.Proofs.YthblfhgofopcaaaGreat.lk hp .nil r))=true) (hb:(nobL (E7 0 ρ) xs&&ρ.all fun r=>iR (E7 0 ρ) (Go.Proofs.YthblfhgofopcaaaGreat.lk hp .nil r))=true) (hc0:C ρ) (hcl:∀a,FU (H a))
  (hf:∀a,∀p∈H a,ρ[p.1]? =none→p.1<16∧Go.Proofs.YthblfhgofopcaaaGreat.lk hp .nil (nm+p.1)= .nil) (h:∀a,ok a→K ((V a).ren (rn nm ρ)) (HT (rn nm ρ) (H a) hp)):Cn P f xs hp nm C K:=by
 rw [Bool.and_eq_true,List.all_eq_true] at hb;rw [List.all_eq_true] at ha;subst hy hh;refine ⟨ρ,false,_,hc0,hC,hn,fun r hr=> ?_, .inr ⟨hb.1,fun r hr g sz es he=> ?_⟩,?_⟩
 ·have:=ha r hr;generalize Go.Proofs.YthblfhgofopcaaaGreat.lk hp .nil r=o at this;cases o with
  | arr g sz es=>exact ⟨_,_,_,rfl⟩
  | _=>cases this
 ·have:=hb.2 r hr;rw [he] at this;exact this
 ·rintro x hl' ⟨a,ha,rfl,rfl⟩;exact ⟨hcl a,(fun h=>by cases h),hf a,h a ha⟩
inductive EO:List AV→List AV→Prop
 | nil:EO [] []
 | cons {x x' :AV} {l l' :List AV}:An x x' →EO l l' →EO (x::l) (x' ::l')
theorem EO.len {l l' :List AV} (h:EO l l'):l.length=l'.length:=by
 induction h with
 | nil=>rfl
 | cons _ _ ih=>simp [ih]
theorem EO.get {l l' :List AV} (h:EO l l'):∀(i:Nat) (x' :AV),l'[i]? =some x' →∃x,l[i]? =some x∧An x x' :=by
 induction h with
 | nil=>intro i x' h;simp at h
 | cons hx _ ih =>
  intro i x' h;cases i with
  | zero=>simp at h;subst h;exact ⟨_,rfl,hx⟩
  | succ i=>simp at h;simpa using ih i x' h
theorem An.agg {l l' :List AV} (h:EO l l'):An (.agg l) (.agg l'):=by
 intro c hf y k;cases k with
 | agg _ ys hl hr =>
  refine AS.agg l' ys (h.len ▸ hl) fun i x' y hx hy=> ?_
  obtain ⟨x,h1,h2⟩:=h.get i x' hx;exact h2 _ _ _ (hr i x y h1 hy)
theorem An.tup {l l' :List AV} (h:EO l l'):An (.tup l) (.tup l'):=by
 intro c hf y k;cases k with
 | tup _ ys hl hr =>
  refine AS.tup l' ys (h.len ▸ hl) fun i x' y hx hy=> ?_
  obtain ⟨x,h1,h2⟩:=h.get i x' hx;exact h2 _ _ _ (hr i x y h1 hy)
theorem DX {P:Program} {f:Nat} {ys:List AV} {hc:Hl} {R:AV→Hl→Prop} (h:Bb P f ys hc fun x hl=>∃res,An x res∧R res hl):Bb P f ys hc R:=by
 refine ⟨h.1,fun c vals hn hh hr=>(h.2 c vals hn hh hr).mono ?_⟩;rintro e w' ⟨v,x,hl,c',e1,e2,⟨res,hx,hR⟩,k1,k2,k3⟩;exact ⟨v,res,hl,c',e1,e2,hR,k1,k2,hx _ _ _ k3⟩
theorem EE {P:Program} {f:Nat} {ys:List AV} {hc:Hl} {R R' :AV→Hl→Prop} (h:Bb P f ys hc R) (hR:∀x hl,R x hl→R' x hl):Bb P f ys hc R' :=by
 refine ⟨h.1,fun c vals hn hh hr=>(h.2 c vals hn hh hr).mono ?_⟩;rintro e w' ⟨v,x,hl,c',e1,e2,h1,k1,k2,k3⟩;exact ⟨v,x,hl,c',e1,e2,hR _ _ h1,k1,k2,k3⟩
theorem kE {nt ne:Nat} {σ:St} {r g sz:Nat} {es es' :List AV} (hr:Go.Proofs.YthblfhgofopcaaaGreat.lk σ.hp .nil r= .arr g sz es) (hcs:es'.map AV.cs=es.map AV.cs):Wk nt ne σ ⟨σ.nx,σ.tm,(r, .arr g sz es')::σ.hp⟩:=fun c0 h0 c a _ _ k=>by
 have hlen:es'.length=es.length:=by have:=congrArg List.length hcs;simpa using this
 have e2:Go.Proofs.YthblfhgofopcaaaGreat.lk ((r,Ob.arr g sz es')::σ.hp) .nil=Bc [(r, .arr g sz es')] (Go.Proofs.YthblfhgofopcaaaGreat.lk σ.hp .nil):=by
  funext s;by_cases hs:r=s
  ·subst hs;simp [Go.Proofs.YthblfhgofopcaaaGreat.lk,Bc]
  ·simp [Go.Proofs.YthblfhgofopcaaaGreat.lk,Bc,hs,Ne.symm hs]
 have old:∀(i:Nat) (e' :AV),es'[i]? =some e' →∃e,es[i]? =some e∧e'.cs=e.cs:=fun i e' h=>by
  have h1:(es'.map AV.cs)[i]? =some e'.cs:=by rw [List.getElem?_map,h];rfl
  rw [hcs,List.getElem?_map] at h1;cases h2:es[i]? with
  | none=>rw [h2] at h1;cases h1
  | some e=>rw [h2] at h1;simp at h1;exact ⟨e,rfl,h1.symm⟩
 cases hrl:c.rl r with
 | true =>
  obtain ⟨cs,ty,a1,a2,a3,a4⟩:=k.hp.ar r g sz es hr hrl;obtain ⟨K,H,_⟩:=E6 k.hp (g' :=g) (es' :=es') hr hrl a1 rfl (Nat.le_refl _) (by rw [hlen];exact a2) (fun i e' h=>by
    obtain ⟨e,h1,h2⟩:=old i e' h
    rw [h2];exact a3 i e h1) (fun i e' j u h hj=>by
    obtain ⟨e,h1,h2⟩:=old i e' h
    rw [h2] at hj
    exact a4 i e j u h1 hj) c.w (fun _ _=>rfl) a1 rfl rfl rfl rfl rfl
  exact ⟨c,rfl,⟨by rw [e2];exact k.kp.trans K,by rw [e2];exact H,⟨k.fr.sz,k.fr.df,fun t=>by rw [e2];exact (k.fr.tm t).ext K.ext⟩⟩⟩
 | false =>
  have h0:=k.hp.em r g sz es hr hrl;subst h0;have h1:es' =[]:=List.eq_nil_of_length_eq_zero hlen;subst h1;have e3:Bc [(r,Ob.arr g sz [])] (Go.Proofs.YthblfhgofopcaaaGreat.lk σ.hp .nil)=Go.Proofs.YthblfhgofopcaaaGreat.lk σ.hp .nil:=by
   funext s;by_cases hs:s=r
   ·subst hs;simp [Bc,hr]
   ·simp [Bc,hs]
  exact ⟨c,rfl,⟨by rw [e2,e3];exact k.kp,by rw [e2,e3];exact k.hp,⟨k.fr.sz,k.fr.df,fun t=>by rw [e2,e3];exact k.fr.tm t⟩⟩⟩
theorem Jf {nt ne:Nat} {σ:St} (r g s nm gn sz j:Nat) {l:List AV} (h1:Go.Proofs.YthblfhgofopcaaaGreat.lk σ.hp .nil r= .arr g s [.agg l]) (hj:l[j]? =some Bw) (h2:Go.Proofs.YthblfhgofopcaaaGreat.lk σ.hp .nil nm= .nil):Wk nt ne σ (I1 r g s nm gn sz [.agg (l.set j (.rsl nm gn 0 0))] σ) :=
 YJ r g s nm gn sz h1 (by simp) h2 (by simp) fun i e e' he he' =>by
  cases i with
  | succ i=>simp at he
  | zero =>
   simp at he he';subst he he';refine ⟨by simp [AV.cs],fun k u u' hu hu' => ?_⟩;simp only [AV.cs] at hu hu';rw [List.getElem?_set] at hu';split at hu'
   ·rename_i hk;subst hk;rw [hj] at hu;injection hu with hu
    split at hu'
    ·injection hu' with hu';exact .inr ⟨hu.symm,hu'.symm⟩
    ·cases hu'
   ·rw [hu] at hu';injection hu' with hu';exact .inl hu'.symm
theorem NH {P:Program} {f:Nat} {ys:List AV} {res:AV} (h:Bb P f ys [] fun x hl=>x.low=res∧hl=[]):AM P f ys res :=
 DX (EE h fun x _ hx=>⟨x.low,An.low x,hx.1,hx.2⟩)
theorem SB.go {nt ne:Nat} {K:St→Prop} {σ:St} (hc:SB nt ne K) (l:List (Nat×Nat)) (d:Nat) (ts:List Nat) (nx:Nat) (tm:List (Nat×AV)) (hp:Hl) (hl:C0 ne l) (h:K ⟨nx,tm,hp⟩) (hs:eT (Fj l d ts nx σ) tm hp):K σ:=by
 refine hc.w _ _ ((HH (d:=d) (nx:=nx) (ts:=ts) hl).trans (YQ hs.1 nx)) ?_;rw [hs.2];exact h
theorem Ay {P:Program} (f:Nat) (xs:List AV) (ts:List Nat) (eff:Bool) (d fresh:Prop) (hp:Hl) (nm j:Nat) (ms:List Nat) (fT:List (Nat×List Nat)) (fW:List (Nat×Nat)) (J:AV→List (Nat×List Nat)→Prop) (JU:AV→Nat×Ob→List (Nat×List Nat)→List (Nat×Nat)→Prop) (JC:AV→Hl→Prop) :
  GS (.call f xs) ts eff d fresh P hp nm j ms fT fW J JU JC=(d∧FC ms fW j ts=true∧Cn P f xs hp nm (fun ρ=>Lt nm ms fT fW j ρ xs (ρ.map (LK hp))=true) fun x hp' =>JC x hp'):=rfl
section
variable {P:Program} {T:Dj} {nt ne:Nat} {D:List Oper→St→(St→Prop)→Prop} {Q:Exit→St→Prop}
def a7 (P:Program) (T:Dj) (nt ne:Nat) (D:List Oper→St→(St→Prop)→Prop) (Q:Exit→St→Prop) (r x x' :Code):Prop:=∀σ,AW P T nt ne D x Q σ=AW P T nt ne D x' (Cr (fun σ' =>∃σ'',Wk nt ne σ' σ'' ∧AW P T nt ne D r Q σ'') Q) σ
theorem M8 (d r:Code):a7 P T nt ne D Q r (.seq d r) d:=fun _=>rfl
theorem Ca {r x x' :Code} (a:Code) (h:a7 P T nt ne D Q r x x'):a7 P T nt ne D Q r (.seq a x) (.seq a x'):=fun σ=>by
 have e1:(fun σ' =>∃σ'',Wk nt ne σ' σ'' ∧AW P T nt ne D x Q σ'')=fun σ' =>∃σ'',Wk nt ne σ' σ'' ∧AW P T nt ne D x' (Cr (fun σ' =>∃σ'',Wk nt ne σ' σ'' ∧AW P T nt ne D r Q σ'') Q) σ'' :=by
  funext σ';congr 1;funext σ'';rw [h σ'']
 have e2:∀X Y:St→Prop,Cr X (Cr Y Q)=Cr X Q:=fun X Y=>by
  funext e;cases e<;>rfl
 show AW P T nt ne D a (Cr (fun σ' =>∃σ'',Wk nt ne σ' σ'' ∧AW P T nt ne D x Q σ'') Q) σ=AW P T nt ne D a (Cr (fun σ' =>∃σ'',Wk nt ne σ' σ'' ∧AW P T nt ne D x' (Cr (fun σ' =>∃σ'',Wk nt ne σ' σ'' ∧AW P T nt ne D r Q σ'') Q) σ'') (Cr _ Q)) σ;rw [e1,e2]
theorem Pa {r x x' :Code} {σ:St} (hu:a7 P T nt ne D Q r x x') (h:∀K:St→Prop,SB nt ne K→(∀σ,AW P T nt ne D r Q σ→K σ)→AW P T nt ne D x' (Cr K Q) σ):AW P T nt ne D x Q σ:=by
 rw [hu σ];exact h _ ⟨fun _ _ hw ⟨σ2,h2,k⟩=>⟨σ2,hw.trans h2,k⟩⟩ fun σ h=>⟨σ, .rfl',h⟩
theorem Gg {a b d r:Code} {σ:St} (h:∀K:St→Prop,SB nt ne K→(∀σ,AW P T nt ne D r Q σ→K σ)→AW P T nt ne D (.seq a (.seq b d)) (Cr K Q) σ):AW P T nt ne D (.seq a (.seq b (.seq d r))) Q σ:=Pa (Ca a (Ca b (M8 d r))) h
end
theorem An.slc {f:Bool} {sz:Nat} {es es' :List AV} (hl:es'.length=es.length) (h:∀(i:Nat) (e e' :AV),es[i]? =some e→es'[i]? =some e' →EO e.cs e'.cs):An (.sl f sz es) (.sl f sz es'):=by
 intro c hf y k;have old:∀(i:Nat) (e' :AV),es'[i]? =some e' →∃e,es[i]? =some e∧EO e.cs e'.cs:=fun i e' he=>by
  have h1:=(List.getElem?_eq_some_iff.1 he).1;have h2:=List.getElem?_eq_getElem (l:=es) (i:=i) (by omega);exact ⟨_,h2,h i _ e' h2 he⟩
 cases k with
 | slE _ _ A cap hc =>
  have:es' =[]:=List.eq_nil_of_length_eq_zero (by rw [hl];rfl);subst this;exact .slE f sz A cap hc
 | sl _ _ _ b o cap ys h1 h2 hs hz hc hr =>
  rw [←hl];refine AS.sl f sz es' b o cap ys (by rw [hl];exact h1) h2 hs (fun i e' he=> ?_) (fun i e' j x' he hj=> ?_) (fun i e' j x' he hj=> ?_)
  ·obtain ⟨e,a1,a2⟩:=old i e' he;rw [←a2.len];exact hz i e a1
  ·obtain ⟨e,a1,a2⟩:=old i e' he;obtain ⟨x,b1,_⟩:=a2.get j x' hj;exact hc i e j x a1 b1
  ·obtain ⟨e,a1,a2⟩:=old i e' he;obtain ⟨x,b1,b2⟩:=a2.get j x' hj;exact b2 _ _ _ (hr i e j x a1 b1)
theorem Wu {nt ne:Nat} {σ:St} {r g sz:Nat} {es es' :List AV} (hr:Go.Proofs.YthblfhgofopcaaaGreat.lk σ.hp .nil r= .arr g sz es) (hlen:es'.length=es.length) (he:∀(i:Nat) (e e' :AV),es[i]? =some e→es'[i]? =some e' →EO e.cs e'.cs):Wk nt ne σ ⟨σ.nx,σ.tm,(r, .arr g sz es')::σ.hp⟩:=fun c0 h0 c a _ _ k=>by
 have e2:Go.Proofs.YthblfhgofopcaaaGreat.lk ((r,Ob.arr g sz es')::σ.hp) .nil=Bc [(r, .arr g sz es')] (Go.Proofs.YthblfhgofopcaaaGreat.lk σ.hp .nil):=by
  funext s;by_cases hs:r=s
  ·subst hs;simp [Go.Proofs.YthblfhgofopcaaaGreat.lk,Bc]
  ·simp [Go.Proofs.YthblfhgofopcaaaGreat.lk,Bc,hs,Ne.symm hs]
 have old:∀(i:Nat) (e' :AV),es'[i]? =some e' →∃e,es[i]? =some e∧EO e.cs e'.cs:=fun i e' h=>by
  have h1:=(List.getElem?_eq_some_iff.1 h).1;have h2:=List.getElem?_eq_getElem (l:=es) (i:=i) (by omega);exact ⟨_,h2,he i _ e' h2 h⟩
 cases hrl:c.rl r with
 | true =>
  obtain ⟨cs,ty,a1,a2,a3,a4⟩:=k.hp.ar r g sz es hr hrl;obtain ⟨K,H,_⟩:=E6 k.hp (g' :=g) (es' :=es') hr hrl a1 rfl (Nat.le_refl _) (by rw [hlen];exact a2) (fun i e' h=>by
    obtain ⟨e,h1,h2⟩:=old i e' h
    rw [←h2.len];exact a3 i e h1) (fun i e' j u h hj=>by
    obtain ⟨e,h1,h2⟩:=old i e' h
    obtain ⟨x,b1,b2⟩:=h2.get j u hj
    obtain ⟨y,hy,hv⟩:=a4 i e j x h1 b1
    exact ⟨y,hy,b2 _ _ _ hv⟩) c.w (fun _ _=>rfl) a1 rfl rfl rfl rfl rfl
  exact ⟨c,rfl,⟨by rw [e2];exact k.kp.trans K,by rw [e2];exact H,⟨k.fr.sz,k.fr.df,fun t=>by rw [e2];exact (k.fr.tm t).ext K.ext⟩⟩⟩
 | false =>
  have h0:=k.hp.em r g sz es hr hrl;subst h0;have h1:es' =[]:=List.eq_nil_of_length_eq_zero hlen;subst h1;have e3:Bc [(r,Ob.arr g sz [])] (Go.Proofs.YthblfhgofopcaaaGreat.lk σ.hp .nil)=Go.Proofs.YthblfhgofopcaaaGreat.lk σ.hp .nil:=by
   funext s;by_cases hs:s=r
   ·subst hs;simp [Bc,hr]
   ·simp [Bc,hs]
  exact ⟨c,rfl,⟨by rw [e2,e3];exact k.kp,by rw [e2,e3];exact k.hp,⟨k.fr.sz,k.fr.df,fun t=>by rw [e2,e3];exact k.fr.tm t⟩⟩⟩
@[go_sem] theorem iD (t:Nat):(Op.alloc t).operands.toList=[]:=rfl
@[go_sem] theorem Xm (t:Nat) (l c:Operand):(Op.makeSlice t l c).operands.toList=[l,c]:=rfl
end
variable [DM]
theorem Ap.objT {P:Program} {f:Nat} {xs ys:List AV} {hc hp hl:Hl} {v:AV} {nm:Nat} {K:AV→Hl→Prop} {ρ:List Nat} (_tg:Tg ρ) (hC:D3 P f ys hc v hl) (hy:passL (E7 0 ρ) (Go.Proofs.YthblfhgofopcaaaGreat.lk hp .nil) xs=ys) (hh:D5 (E7 0 ρ) (Go.Proofs.YthblfhgofopcaaaGreat.lk hp .nil) 0 ρ=hc) (hn:ρ.Nodup)
  (ha:(ρ.all fun r=>LP (Go.Proofs.YthblfhgofopcaaaGreat.lk hp .nil r))=true) (hb:(v.allT&&hl.all fun p=>Yh p.2)=true) (hcl:FU hl)
  (hf:∀p∈hl,ρ[p.1]? =none→Go.Proofs.YthblfhgofopcaaaGreat.lk hp .nil (nm+p.1)= .nil) (h:K (v.ren (rn nm ρ)) (HT (rn nm ρ) hl hp)):Ap P f xs hp nm K:=by
 rw [Bool.and_eq_true,List.all_eq_true] at hb;rw [List.all_eq_true] at ha;subst hy hh;refine ⟨ρ,true,_,hC,hn,fun r hr=> ?_, .inl rfl,?_⟩
 ·have:=ha r hr;generalize Go.Proofs.YthblfhgofopcaaaGreat.lk hp .nil r=o at this;cases o with
  | arr g sz es=>exact ⟨_,_,_,rfl⟩
  | _=>cases this
 ·rintro x hl' ⟨rfl,rfl⟩;exact ⟨hcl,fun _=>⟨hb.1,hb.2⟩,hf,h⟩
theorem Cn.objT {P:Program} {f:Nat} {xs ys:List AV} {hc hp hl:Hl} {v:AV} {nm:Nat} {C:List Nat→Prop} {K:AV→Hl→Prop} {ρ:List Nat} (_tg:Tg ρ) (hC:D3 P f ys hc v hl) (hy:passL (E7 0 ρ) (Go.Proofs.YthblfhgofopcaaaGreat.lk hp .nil) xs=ys) (hh:D5 (E7 0 ρ) (Go.Proofs.YthblfhgofopcaaaGreat.lk hp .nil) 0 ρ=hc) (hn:ρ.Nodup)
  (ha:(ρ.all fun r=>LP (Go.Proofs.YthblfhgofopcaaaGreat.lk hp .nil r))=true) (hb:(v.allT&&hl.all fun p=>Yh p.2)=true) (hc' :C ρ) (hcl:FU hl)
  (hf:∀p∈hl,ρ[p.1]? =none→p.1<16∧Go.Proofs.YthblfhgofopcaaaGreat.lk hp .nil (nm+p.1)= .nil) (h:K (v.ren (rn nm ρ)) (HT (rn nm ρ) hl hp)):Cn P f xs hp nm C K:=by
 rw [Bool.and_eq_true,List.all_eq_true] at hb;rw [List.all_eq_true] at ha;subst hy hh;refine ⟨ρ,true,_,hc',hC,hn,fun r hr=> ?_, .inl rfl,?_⟩
 ·have:=ha r hr;generalize Go.Proofs.YthblfhgofopcaaaGreat.lk hp .nil r=o at this;cases o with
  | arr g sz es=>exact ⟨_,_,_,rfl⟩
  | _=>cases this
 ·rintro x hl' ⟨rfl,rfl⟩;exact ⟨hcl,fun _=>⟨hb.1,hb.2⟩,hf,h⟩
end Go.Proofs.YthblfhgofopcaaaGreat

namespace Go.Proofs.YthblfhgofopcaaaGreat
open Go.RowKit
variable [DM]
theorem Ap.objET {α:Type} {P:Program} {f:Nat} {xs ys:List AV} {hc hp:Hl} {V:α→AV} {H:α→Hl} {ok:α→Prop} {nm:Nat} {K:AV→Hl→Prop} {ρ:List Nat} (_tg:Tg ρ) (hC:Hn P f ys hc V H ok) (hy:passL (E7 0 ρ) (Go.Proofs.YthblfhgofopcaaaGreat.lk hp .nil) xs=ys) (hh:D5 (E7 0 ρ) (Go.Proofs.YthblfhgofopcaaaGreat.lk hp .nil) 0 ρ=hc) (hn:ρ.Nodup)
  (ha:(ρ.all fun r=>LP (Go.Proofs.YthblfhgofopcaaaGreat.lk hp .nil r))=true) (hb:∀a,((V a).allT&&(H a).all fun p=>Yh p.2)=true) (hcl:∀a,FU (H a))
  (hf:∀a,∀p∈H a,ρ[p.1]? =none→Go.Proofs.YthblfhgofopcaaaGreat.lk hp .nil (nm+p.1)= .nil) (h:∀a,ok a→K ((V a).ren (rn nm ρ)) (HT (rn nm ρ) (H a) hp)):Ap P f xs hp nm K:=by
 rw [List.all_eq_true] at ha;subst hy hh;refine ⟨ρ,true,_,hC,hn,fun r hr=> ?_, .inl rfl,?_⟩
 ·have:=ha r hr;generalize Go.Proofs.YthblfhgofopcaaaGreat.lk hp .nil r=o at this;cases o with
  | arr g sz es=>exact ⟨_,_,_,rfl⟩
  | _=>cases this
 ·rintro x hl' ⟨a,ha',rfl,rfl⟩;have hb' :=hb a;rw [Bool.and_eq_true,List.all_eq_true] at hb';exact ⟨hcl a,fun _=>⟨hb'.1,hb'.2⟩,hf a,h a ha'⟩
end Go.Proofs.YthblfhgofopcaaaGreat

namespace Go.Proofs.YthblfhgofopcaaaGreat
open Go.RowKit
variable [DM]
theorem Uc {P:Program} {f:Nat} {ys ys' :List AV} {hc:Hl} {R:AV→Hl→Prop} (hy:EO ys ys') (h:Bb P f ys' hc R):Bb P f ys hc R:=by
 refine ⟨h.1,fun c vals hn hh hr=>h.2 c vals hn hh ⟨by rw [hr.1,hy.len],fun i u v hu hv=> ?_⟩⟩;obtain ⟨x,h1,h2⟩:=hy.get i u hu;exact h2 _ _ _ (hr.2 i x v h1 hv)
theorem OE {P:Program} {f:Nat} {ys ys' :List AV} {res:AV} (hy:EO ys ys') (h:AM P f ys' res):AM P f ys res:=Uc hy h
end Go.Proofs.YthblfhgofopcaaaGreat
