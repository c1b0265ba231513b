/-
  Parts of the proof: PkB.
-/
import Derived.Test.YthblfhgofopcaaaGreatSH13
set_option linter.all false
namespace Go.Proofs.YthblfhgofopcaaaGreat
open Go.RowKit
set_option maxRecDepth 100000
theorem zH {p q:Prop} (hq:q) (h:(True→q)→p:=by
 intro hq
 first
  | (simp (decide:=true) (disch:=omega) only [↓reduceIte,Nat.reduceEqDiff,↓IR,↓Ir,↓Tc,↓Tb,↓Tj,↓OU,↓Qy,↓RD,↓Qp,↓MW,↓Rq,↓UH,↓OV,↓IB,↓Na,↓LI,↓RB,↓OH,↓KG,↓UE,↓WG,↓R8,↓Iz,↓OW,↓JE,↓O7,↓Kz,↓O8,↓JH,↓Jp,↓OM,↓Qm,↓QK,↓Ot,↓RV,↓OJ,Oe,go_sem,true_and,and_true,false_and,and_false,Nat.reduceAdd,Nat.reduceMul,Nat.reduceSub,List.length_map,List.map_cons,List.map_nil,List.length_cons,List.length_nil,List.getElem?_cons_zero,List.getElem?_cons_succ,Option.map_some,Option.map_none,Option.getD_some,Option.getD_none,List.drop_zero,List.take_zero,List.drop_succ_cons,List.take_succ_cons,Int.toNat_natCast,List.nil_append,List.cons_append,List.append_nil,List.toList_toArray,List.set_cons_zero,List.set_cons_succ,Nat.zero_add,Nat.add_zero,Int.toNat_zero,List.reduceReplicate,Int.reduceToNat,Int.reduceAdd,Int.reduceSub,Int.reduceMul,Int.reduceNeg,Int.ofNat_zero,Int.natCast_zero,Int.cast_ofNat_Int,Int.natCast_one,cond_true,cond_false,List.getElem?_nil,undef,Option.toList_some,Option.toList_none,List.all_nil,reduceCtorEq,implies_true,List.mem_nil_iff,List.not_mem_nil,List.mem_cons,or_false,false_or,forall_eq,forall_eq_or_imp,Int.natCast_nonneg,Int.ofNat_lt,Int.ofNat_le,decide_true,decide_false,Nat.lt_irrefl,beq_self_eq_true,true_or,or_true,Ih,Al,nW,mO,pI,nH,oB,lR,fa];exact hq ⟨⟩)
  | fail):p:=h (fun _=>hq)
theorem tK {p:Prop} (h:p:=by
 first
  | (simp (decide:=true) (disch:=omega) only [↓reduceIte,Nat.reduceEqDiff,↓IR,↓Ir,↓Tc,↓Tb,↓Tj,↓OU,↓Qy,↓RD,↓Qp,↓MW,↓Rq,↓UH,↓OV,↓IB,↓Na,↓LI,↓RB,↓OH,↓KG,↓UE,↓WG,↓R8,↓Iz,↓OW,↓JE,↓O7,↓Kz,↓O8,↓JH,↓Jp,↓OM,↓Qm,↓QK,↓Ot,↓RV,↓OJ,Oe,go_sem,true_and,and_true,false_and,and_false,Nat.reduceAdd,Nat.reduceMul,Nat.reduceSub,List.length_map,List.map_cons,List.map_nil,List.length_cons,List.length_nil,List.getElem?_cons_zero,List.getElem?_cons_succ,Option.map_some,Option.map_none,Option.getD_some,Option.getD_none,List.drop_zero,List.take_zero,List.drop_succ_cons,List.take_succ_cons,Int.toNat_natCast,List.nil_append,List.cons_append,List.append_nil,List.toList_toArray,List.set_cons_zero,List.set_cons_succ,Nat.zero_add,Nat.add_zero,Int.toNat_zero,List.reduceReplicate,Int.reduceToNat,Int.reduceAdd,Int.reduceSub,Int.reduceMul,Int.reduceNeg,Int.ofNat_zero,Int.natCast_zero,Int.cast_ofNat_Int,Int.natCast_one,cond_true,cond_false,List.getElem?_nil,undef,Option.toList_some,Option.toList_none,List.all_nil,reduceCtorEq,implies_true,List.mem_nil_iff,List.not_mem_nil,List.mem_cons,or_false,false_or,forall_eq,forall_eq_or_imp,Int.natCast_nonneg,Int.ofNat_lt,Int.ofNat_le,decide_true,decide_false,Nat.lt_irrefl,beq_self_eq_true,true_or,or_true,Ih,Al,nW,mO,pI,nH,oB,lR,fa];done)
  | fail):p:=h
theorem zo {p:Prop} (h:p:=by
 first
  | (first | assumption | rfl | (simp only [Bool.and_eq_false_iff,Bool.or_eq_false_iff,decide_eq_true_eq,decide_eq_false_iff_not,beq_iff_eq,bne_iff_ne,beq_eq_false_iff_ne,bne_eq_false_iff_eq,ne_eq,Bool.not_eq_true',Bool.not_eq_false',gt_iff_lt,ge_iff_le,Int.not_lt,Int.not_le,Bool.and_eq_true,Bool.or_eq_true,Bool.not_eq_true,Bool.not_eq_false,not_and,not_or,Nat.not_lt,Nat.not_le,Classical.not_not,Decidable.not_not];omega))
  | fail):p:=h
theorem zx {p q:Prop} (hq:q) (h:(True→q)→p:=by
 intro hq
 first
  | ((first | (with_reducible refine DO ?_) | (with_reducible refine Cw ?_) | (with_reducible refine TS ?_) | (with_reducible refine Ut ?_) | ((with_reducible refine Q3 ?_ ?_);(· rfl)) | (with_reducible refine J9 ?_) | (with_reducible refine So ?_));exact hq ⟨⟩)
  | fail):p:=h (fun _=>hq)
theorem zU {p q:Prop} (hq:q) (h:(True→q)→p:=by
 intro hq
 first
  | ((repeat first | (with_reducible refine Om ?_) | (with_reducible refine Q7 ?_) | (with_reducible refine Oo ?_));exact hq ⟨⟩)
  | fail):p:=h (fun _=>hq)
theorem zN {p q:Prop} (hq:q) (h:(True→q)→p:=by
 intro hq
 first
  | ((with_reducible refine D1 ?_);exact hq ⟨⟩)
  | fail):p:=h (fun _=>hq)
theorem zu {p:Prop} (h:p:=by
 first
  | (first | exact AK | (refine zE ?_;rfl) | rfl | trivial)
  | fail):p:=h
theorem Yk {p:Prop} (h:p:=by
 first
  | (first | exact Wh (by simp) | exact XT (by decide) (by simp) (by simp) | (refine ⟨by simp,?_⟩;intro p hp;simp at hp;(repeat' (rcases hp with hp | hp))<;>(subst hp;simp)) | (refine ⟨by simp,?_⟩;simp))
  | fail):p:=h
theorem pR {p:Prop} (h:p:=by
 first
  | (first | exact AK | (simp (decide:=true) [go_sem,nobL,AV.nob,E7,iR];done) | rfl)
  | fail):p:=h
theorem g8 {p:Prop} (h:p:=by
 first
  | (first | (simp only [List.all_cons,List.all_nil,Bool.and_true];exact AK) | exact AK | rfl)
  | fail):p:=h
theorem uI {p:Prop} (h:p:=by
 first
  | (first | exact AK | (simp (decide:=true) only [go_sem,AV.allT,Yh,List.all_cons,List.all_nil,Bool.and_true,ZP,allTL];done) | rfl)
  | fail):p:=h
theorem pX {p:Prop} (h:p:=by
 first
  | (first | (apply Or.inl;first | exact AK | rfl) | (apply Or.inr;first | exact AK | rfl))
  | fail):p:=h
theorem vS {p:Prop} (h:p:=by
 first
  | (intro q;first | exact AK | (refine zE ?_;rfl))
  | fail):p:=h
section
variable {P:Program} {T:Dj} {nt:Nat} {all os:List Oper} {nx:Nat} {tm:List (Nat×AV)} {hp:Hl} {G:St→Prop} {f:Nat} {ys:List AV} {wJ:List Operand} {ts:Array Nat} {d:Option Nat} {K:AV→Hl→Prop} {hc:Hl}
theorem vZ {a3:_} {a4:_} {a5:_} {res:AV} (ct:AM P f ys res) (h:AE P T nt all (⟨d, .call ⟨.value (.func f),wJ.toArray,ts⟩,a3,a4,a5,none⟩::os) nx tm hp G):AE P T nt all (⟨d, .call ⟨.value (.func f),wJ.toArray,ts⟩,a3,a4,a5,none⟩::os) nx tm hp G:=h
theorem tD {a3:_} {a4:_} {a5:_} {res:AV} {ms js:List Nat} {base j:Nat} {fT:List (Nat×List Nat)} {fW:List (Nat×Nat)} (ct:AM P f ys res) (hj:all[j]? =some ⟨d, .call ⟨.value (.func f),wJ.toArray,ts⟩,a3,a4,a5,none⟩) (h:Iw P T nt all ms base (j::js) tm hp fT fW G):Iw P T nt all ms base (j::js) tm hp fT fW G:=h
theorem wC {a3:_} {a4:_} {a5:_} {res:AV} {hl:Hl} (ct:Je P f ys res hl) (h:AE P T nt all (⟨d, .call ⟨.value (.func f),wJ.toArray,ts⟩,a3,a4,a5,none⟩::os) nx tm hp G):AE P T nt all (⟨d, .call ⟨.value (.func f),wJ.toArray,ts⟩,a3,a4,a5,none⟩::os) nx tm hp G:=h
theorem rU {a3:_} {a4:_} {a5:_} {res:AV} {hl:Hl} {ms js:List Nat} {base j:Nat} {fT:List (Nat×List Nat)} {fW:List (Nat×Nat)} (ct:Je P f ys res hl) (hj:all[j]? =some ⟨d, .call ⟨.value (.func f),wJ.toArray,ts⟩,a3,a4,a5,none⟩) (h:Iw P T nt all ms base (j::js) tm hp fT fW G):Iw P T nt all ms base (j::js) tm hp fT fW G:=h
theorem uS {a3:_} {a4:_} {a5:_} {res:AV} {hc hl:Hl} (ct:D3 P f ys hc res hl) (h:AE P T nt all (⟨d, .call ⟨.value (.func f),wJ.toArray,ts⟩,a3,a4,a5,none⟩::os) nx tm hp G):AE P T nt all (⟨d, .call ⟨.value (.func f),wJ.toArray,ts⟩,a3,a4,a5,none⟩::os) nx tm hp G:=h
theorem fP {a3:_} {a4:_} {a5:_} {res:AV} {hc hl:Hl} {ms js:List Nat} {base j:Nat} {fT:List (Nat×List Nat)} {fW:List (Nat×Nat)} (ct:D3 P f ys hc res hl) (hj:all[j]? =some ⟨d, .call ⟨.value (.func f),wJ.toArray,ts⟩,a3,a4,a5,none⟩) (h:Iw P T nt all ms base (j::js) tm hp fT fW G):Iw P T nt all ms base (j::js) tm hp fT fW G:=h
theorem jW {a3:_} {a4:_} {a5:_} {t:Nat} {wJ:Array Operand} (h:AE P T nt all (⟨d, .call ⟨.value (.tmp t),wJ,ts⟩,a3,a4,a5,none⟩::os) nx tm hp G):AE P T nt all (⟨d, .call ⟨.value (.tmp t),wJ,ts⟩,a3,a4,a5,none⟩::os) nx tm hp G:=h
theorem XF {a3:_} {a4:_} {a5:_} {t:Nat} {wJ:Array Operand} {ms js:List Nat} {base j:Nat} {fT:List (Nat×List Nat)} {fW:List (Nat×Nat)} (hj:all[j]? =some ⟨d, .call ⟨.value (.tmp t),wJ,ts⟩,a3,a4,a5,none⟩) (h:Iw P T nt all ms base (j::js) tm hp fT fW G):Iw P T nt all ms base (j::js) tm hp fT fW G:=h
theorem vR {a3:_} {a4:_} {a5:_} {cv:Operand} {wJ:Array Operand} (h:AE P T nt all (⟨d, .call ⟨.value cv,wJ,ts⟩,a3,a4,a5,none⟩::os) nx tm hp G):AE P T nt all (⟨d, .call ⟨.value cv,wJ,ts⟩,a3,a4,a5,none⟩::os) nx tm hp G:=h
theorem kQ {a3:_} {a4:_} {a5:_} {cv:Operand} {wJ:Array Operand} {ms js:List Nat} {base j:Nat} {fT:List (Nat×List Nat)} {fW:List (Nat×Nat)} (hj:all[j]? =some ⟨d, .call ⟨.value cv,wJ,ts⟩,a3,a4,a5,none⟩) (h:Iw P T nt all ms base (j::js) tm hp fT fW G):Iw P T nt all ms base (j::js) tm hp fT fW G:=h
end
theorem wD {p q:Prop} (hq:q) (h:(True→q)→p:=by
 intro hq
 first
  | ((first | (with_reducible refine Df ?_) | (with_reducible refine De ?_) | ((with_reducible apply Cq);(· exact rfl)) | ((with_reducible apply Cp);(· exact rfl)));intro Jo JU JC AH AJ AG;refine zH ?_;(repeat ((with_reducible refine And.intro ?_ ?_);(· first | (with_reducible exact True.intro) | (with_reducible assumption) | omega | trivial)));revert AG AJ AH JC JU Jo;exact hq ⟨⟩)
  | fail):p:=h (fun _=>hq)
theorem zy {p q:Prop} (hq:q) (h:(True→q)→p:=by
 intro hq
 first
  | ((with_reducible intro Jo JU JC AH AJ AG);refine zH ?_;(repeat ((with_reducible refine And.intro ?_ ?_);(· first | (with_reducible exact True.intro) | (with_reducible assumption) | omega | trivial)));revert AG AJ AH JC JU Jo;exact hq ⟨⟩)
  | fail):p:=h (fun _=>hq)
theorem zQ {p q:Prop} (hq:q) (h:(True→q)→p:=by
 intro hq
 first
  | ((repeat1' (first | ((fail_if_success (first | (with_reducible refine vR ?_) | ((with_reducible apply kQ);(· exact rfl))));(first | (with_reducible refine Df ?_) | (with_reducible refine De ?_) | ((with_reducible apply Cq);(· exact rfl)) | ((with_reducible apply Cp);(· exact rfl)));intro Jo JU JC AH AJ AG;refine zH ?_;((repeat ((with_reducible refine And.intro ?_ ?_);(· first | (with_reducible exact True.intro) | (with_reducible assumption) | omega | trivial)));(first | refine AH _ _ ?_ | refine AJ _ _ _ ?_ | refine AJ _ _ _ _ ?_ | refine AG _ _ _ ?_ | refine AG _ _ ?_);(try clear AH AJ AG Jo JU JC))) | ((first | ((with_reducible apply Sh);(· decide);(· exact rfl)) | ((with_reducible apply PY);(· exact rfl)) | ((with_reducible apply PV);(· exact rfl);(· decide);(· exact rfl);(· exact tK)));intro Jr Js J0 Vd Ve Vh;refine zH ?_;first | ((first | refine Vd _ ?_ | refine Ve _ ?_ | refine Vh ?_);clear Vd Ve Vh Jr Js J0) | ((first | ((with_reducible refine MV ?_ ?_);(· (exact zo))) | ((with_reducible refine NV ?_ ?_);(· (exact zo))));refine zH ?_;((first | refine Vd _ ?_ | refine Ve _ ?_ | refine Vh ?_);clear Vd Ve Vh Jr Js J0))) | ((with_reducible intro Jo JU JC AH AJ AG);refine zH ?_;((repeat ((with_reducible refine And.intro ?_ ?_);(· first | (with_reducible exact True.intro) | (with_reducible assumption) | omega | trivial)));(first | refine AH _ _ ?_ | refine AJ _ _ _ ?_ | refine AJ _ _ _ _ ?_ | refine AG _ _ _ ?_ | refine AG _ _ ?_);(try clear AH AJ AG Jo JU JC))) | ((with_reducible refine Ws ?_);intro Jk Wm;simp (decide:=true) only [Hy,EM,Nat.zero_add,List.map_cons,List.map_nil,↓reduceIte,Nat.reduceEqDiff,↓IR,↓Ir,Nat.reduceAdd];refine Wm _ ?_;clear Wm Jk;(repeat refine zx ?_)) | ((with_reducible refine T5 ?_);intro Jk Wm;simp (decide:=true) only [Hy,EM,Nat.zero_add,List.map_cons,List.map_nil,↓reduceIte,Nat.reduceEqDiff,↓IR,↓Ir,Nat.reduceAdd];refine Wm _ _ ?_;clear Wm Jk;(repeat refine zx ?_)) | ((with_reducible apply Ti lv);(· exact rfl)) | ((with_reducible apply Q1 lv tb);(· exact rfl);(· exact rfl);(· kernel_rfl)) | (with_reducible refine MS ?_) | (with_reducible refine Ql ?_) | ((first | (with_reducible refine Qj ?_) | (with_reducible refine PU ?_) | (with_reducible refine FW ?_));(repeat refine zx ?_)) | ((with_reducible refine Nc ?_ ?_);(· exact rfl)) | ((with_reducible refine MM ?_ ?_);(· exact rfl)) | ((with_reducible apply iA);(· exact rfl);(· exact zo)) | ((with_reducible apply E2);(· exact rfl);(· exact zo))));exact hq ⟨⟩)
  | fail):p:=h (fun _=>hq)
theorem Vf {p q:Prop} (hq:q) (h:(True→q)→p:=by
 intro hq
 first
  | ((repeat1' (first | ((fail_if_success (first | (with_reducible refine vR ?_) | ((with_reducible apply kQ);(· exact rfl))));(first | (with_reducible refine Df ?_) | (with_reducible refine De ?_) | ((with_reducible apply Cq);(· exact rfl)) | ((with_reducible apply Cp);(· exact rfl)));intro Jo JU JC AH AJ AG;refine zH ?_;((repeat ((with_reducible refine And.intro ?_ ?_);(· first | (with_reducible exact True.intro) | (with_reducible assumption) | omega | trivial)));(first | refine AH _ _ ?_ | refine AJ _ _ _ ?_ | refine AJ _ _ _ _ ?_ | refine AG _ _ _ ?_ | refine AG _ _ ?_);(try clear AH AJ AG Jo JU JC))) | ((first | ((with_reducible apply Sh);(· decide);(· exact rfl)) | ((with_reducible apply PY);(· exact rfl)) | ((with_reducible apply PV);(· exact rfl);(· decide);(· exact rfl);(· exact tK)));intro Jr Js J0 Vd Ve Vh;refine zH ?_;first | ((first | refine Vd _ ?_ | refine Ve _ ?_ | refine Vh ?_);clear Vd Ve Vh Jr Js J0) | ((first | ((with_reducible refine MV ?_ ?_);(· (exact zo))) | ((with_reducible refine NV ?_ ?_);(· (exact zo))));refine zH ?_;((first | refine Vd _ ?_ | refine Ve _ ?_ | refine Vh ?_);clear Vd Ve Vh Jr Js J0))) | ((with_reducible intro Jo JU JC AH AJ AG);refine zH ?_;((repeat ((with_reducible refine And.intro ?_ ?_);(· first | (with_reducible exact True.intro) | (with_reducible assumption) | omega | trivial)));(first | refine AH _ _ ?_ | refine AJ _ _ _ ?_ | refine AJ _ _ _ _ ?_ | refine AG _ _ _ ?_ | refine AG _ _ ?_);(try clear AH AJ AG Jo JU JC))) | ((with_reducible refine Ws ?_);intro Jk Wm;simp (decide:=true) only [Hy,EM,Nat.zero_add,List.map_cons,List.map_nil,↓reduceIte,Nat.reduceEqDiff,↓IR,↓Ir,Nat.reduceAdd];refine Wm _ ?_;clear Wm Jk;(repeat refine zx ?_)) | ((with_reducible refine T5 ?_);intro Jk Wm;simp (decide:=true) only [Hy,EM,Nat.zero_add,List.map_cons,List.map_nil,↓reduceIte,Nat.reduceEqDiff,↓IR,↓Ir,Nat.reduceAdd];refine Wm _ _ ?_;clear Wm Jk;(repeat refine zx ?_)) | ((with_reducible apply Ti lv);(· exact rfl)) | ((with_reducible apply Q1 lv tb);(· exact rfl);(· exact rfl);(· kernel_rfl)) | (with_reducible refine MS ?_) | (with_reducible refine Ql ?_) | ((first | (with_reducible refine Qj ?_) | (with_reducible refine PU ?_) | (with_reducible refine FW ?_));(repeat refine zx ?_)) | ((with_reducible refine Nc ?_ ?_);(· exact rfl)) | ((with_reducible refine MM ?_ ?_);(· exact rfl))));exact hq ⟨⟩)
  | fail):p:=h (fun _=>hq)
theorem zC {p q1 q2:Prop} (hq1:q1) (hq2:q2) (h:(True→q1)→(True→q2)→p:=by
 intro hq1 hq2
 first
  | ((first | ((with_reducible apply Ac);(· exact rfl);refine ⟨fun hb=> ?_,fun hb=> ?_⟩) | ((first | ((with_reducible apply Sh);(· decide);(· exact rfl)) | ((with_reducible apply PY);(· exact rfl)) | ((with_reducible apply PV);(· exact rfl);(· decide);(· exact rfl);(· exact tK)));intro Jr Js J0 Vd Ve Vh;refine zH ?_;refine Pn (fun hb=> ?_) (fun hb=> ?_)<;>(refine zH ?_;((first | refine Vd _ ?_ | refine Ve _ ?_ | refine Vh ?_);clear Vd Ve Vh Jr Js J0))))<;>(try simp only [Bool.and_eq_false_iff,Bool.or_eq_false_iff,decide_eq_true_eq,decide_eq_false_iff_not,beq_iff_eq,bne_iff_ne,beq_eq_false_iff_ne,bne_eq_false_iff_eq,ne_eq,Bool.not_eq_true',Bool.not_eq_false',gt_iff_lt,ge_iff_le,Int.not_lt,Int.not_le,Bool.and_eq_true,Bool.or_eq_true,Bool.not_eq_true,Bool.not_eq_false,not_and,not_or,Nat.not_lt,Nat.not_le,Classical.not_not,Decidable.not_not] at hb);(· (revert hb;exact hq1 ⟨⟩));(· (revert hb;exact hq2 ⟨⟩)))
  | fail):p:=h (fun _=>hq1) (fun _=>hq2)
theorem zK {p q:Prop} (hq:q) (h:(True→q)→p:=by
 intro hq
 first
  | ((first | refine wD ?_ | refine zy ?_);exact hq ⟨⟩)
  | fail):p:=h (fun _=>hq)
theorem zS {c p q:Prop} (ct:c) (hq:q) (h:c→(True→q)→p:=by
 intro ct hq
 first
  | ((first | ((with_reducible refine vZ ct ?_);(first | (with_reducible refine Df ?_) | (with_reducible refine De ?_) | ((with_reducible apply Cq);(· exact rfl)) | ((with_reducible apply Cp);(· exact rfl)));intro Jo JU JC AH AJ AG;refine zH ?_;(repeat ((with_reducible refine And.intro ?_ ?_);(· first | (with_reducible exact True.intro) | (with_reducible assumption) | omega | trivial)))) | ((with_reducible apply tD ct);(· exact rfl);(first | (with_reducible refine Df ?_) | (with_reducible refine De ?_) | ((with_reducible apply Cq);(· exact rfl)) | ((with_reducible apply Cp);(· exact rfl)));intro Jo JU JC AH AJ AG;refine zH ?_;(repeat ((with_reducible refine And.intro ?_ ?_);(· first | (with_reducible exact True.intro) | (with_reducible assumption) | omega | trivial)))) | ((first | (with_reducible refine jW ?_) | ((with_reducible apply XF);(· exact rfl)));(first | (with_reducible refine Df ?_) | (with_reducible refine De ?_) | ((with_reducible apply Cq);(· exact rfl)) | ((with_reducible apply Cp);(· exact rfl)));intro Jo JU JC AH AJ AG;refine zH ?_;(repeat ((with_reducible refine And.intro ?_ ?_);(· first | (with_reducible exact True.intro) | (with_reducible assumption) | omega | trivial)))) | ((with_reducible intro Jo JU JC AH AJ AG);refine zH ?_;(repeat ((with_reducible refine And.intro ?_ ?_);(· first | (with_reducible exact True.intro) | (with_reducible assumption) | omega | trivial)))) | (repeat ((with_reducible refine And.intro ?_ ?_);(· first | (with_reducible exact True.intro) | (with_reducible assumption) | omega | trivial))));(first | ((with_reducible apply Ap.says ct);(· exact zV);(· exact pX);(· exact vS)) | ((with_reducible apply Cn.says ct);(· exact zV);(· exact zV);(· exact pX);(· exact vS)));(try refine zH ?_);((repeat ((with_reducible refine And.intro ?_ ?_);(· first | (with_reducible exact True.intro) | (with_reducible assumption) | omega | trivial)));(first | refine AH _ _ ?_ | refine AJ _ _ _ ?_ | refine AJ _ _ _ _ ?_ | refine AG _ _ _ ?_ | refine AG _ _ ?_);(try clear AH AJ AG Jo JU JC));exact hq ⟨⟩)
  | fail):p:=h ct (fun _=>hq)
theorem zO {c p q:Prop} (ct:c) (hq:q) (h:c→(True→q)→p:=by
 intro ct hq
 first
  | ((first | ((with_reducible refine wC ct ?_);(first | (with_reducible refine Df ?_) | (with_reducible refine De ?_) | ((with_reducible apply Cq);(· exact rfl)) | ((with_reducible apply Cp);(· exact rfl)));intro Jo JU JC AH AJ AG;refine zH ?_;(repeat ((with_reducible refine And.intro ?_ ?_);(· first | (with_reducible exact True.intro) | (with_reducible assumption) | omega | trivial)))) | ((with_reducible apply rU ct);(· exact rfl);(first | (with_reducible refine Df ?_) | (with_reducible refine De ?_) | ((with_reducible apply Cq);(· exact rfl)) | ((with_reducible apply Cp);(· exact rfl)));intro Jo JU JC AH AJ AG;refine zH ?_;(repeat ((with_reducible refine And.intro ?_ ?_);(· first | (with_reducible exact True.intro) | (with_reducible assumption) | omega | trivial)))) | ((first | (with_reducible refine jW ?_) | ((with_reducible apply XF);(· exact rfl)));(first | (with_reducible refine Df ?_) | (with_reducible refine De ?_) | ((with_reducible apply Cq);(· exact rfl)) | ((with_reducible apply Cp);(· exact rfl)));intro Jo JU JC AH AJ AG;refine zH ?_;(repeat ((with_reducible refine And.intro ?_ ?_);(· first | (with_reducible exact True.intro) | (with_reducible assumption) | omega | trivial)))) | ((with_reducible intro Jo JU JC AH AJ AG);refine zH ?_;(repeat ((with_reducible refine And.intro ?_ ?_);(· first | (with_reducible exact True.intro) | (with_reducible assumption) | omega | trivial)))) | (repeat ((with_reducible refine And.intro ?_ ?_);(· first | (with_reducible exact True.intro) | (with_reducible assumption) | omega | trivial))));(first | ((with_reducible apply Ap.own ct);(· exact zV);(· exact pX);(· exact qR);(· exact AK)) | ((with_reducible apply Cn.own ct);(· exact zV);(· exact zV);(· exact pX);(· exact qR);(· exact AK)));(try refine zH ?_);((repeat ((with_reducible refine And.intro ?_ ?_);(· first | (with_reducible exact True.intro) | (with_reducible assumption) | omega | trivial)));(first | refine AH _ _ ?_ | refine AJ _ _ _ ?_ | refine AJ _ _ _ _ ?_ | refine AG _ _ _ ?_ | refine AG _ _ ?_);(try clear AH AJ AG Jo JU JC));exact hq ⟨⟩)
  | fail):p:=h ct (fun _=>hq)
theorem zJ {r:List Nat} {c p q:Prop} (tg:Tg r) (ct:c) (hq:q) (h:Tg r→c→(True→q)→p:=by
 intro tg ct hq
 first
  | ((first | ((with_reducible refine uS ct ?_);(first | (with_reducible refine Df ?_) | (with_reducible refine De ?_) | ((with_reducible apply Cq);(· exact rfl)) | ((with_reducible apply Cp);(· exact rfl)));intro Jo JU JC AH AJ AG;refine zH ?_;(repeat ((with_reducible refine And.intro ?_ ?_);(· first | (with_reducible exact True.intro) | (with_reducible assumption) | omega | trivial)))) | ((with_reducible apply fP ct);(· exact rfl);(first | (with_reducible refine Df ?_) | (with_reducible refine De ?_) | ((with_reducible apply Cq);(· exact rfl)) | ((with_reducible apply Cp);(· exact rfl)));intro Jo JU JC AH AJ AG;refine zH ?_;(repeat ((with_reducible refine And.intro ?_ ?_);(· first | (with_reducible exact True.intro) | (with_reducible assumption) | omega | trivial)))) | ((first | (with_reducible refine jW ?_) | ((with_reducible apply XF);(· exact rfl)));(first | (with_reducible refine Df ?_) | (with_reducible refine De ?_) | ((with_reducible apply Cq);(· exact rfl)) | ((with_reducible apply Cp);(· exact rfl)));intro Jo JU JC AH AJ AG;refine zH ?_;(repeat ((with_reducible refine And.intro ?_ ?_);(· first | (with_reducible exact True.intro) | (with_reducible assumption) | omega | trivial)))) | ((with_reducible intro Jo JU JC AH AJ AG);refine zH ?_;(repeat ((with_reducible refine And.intro ?_ ?_);(· first | (with_reducible exact True.intro) | (with_reducible assumption) | omega | trivial)))) | (repeat ((with_reducible refine And.intro ?_ ?_);(· first | (with_reducible exact True.intro) | (with_reducible assumption) | omega | trivial))));(first | ((with_reducible apply Ap.objD tg ct);(· exact zu);(· exact zu);(· decide);(· exact zu);(· exact pR);(· exact Yk);(· exact AK)) | ((with_reducible apply Cn.objD tg ct);(· exact zu);(· exact zu);(· decide);(· exact zu);(· exact pR);(· exact zV);(· exact Yk);(· exact AK)));(try refine zH ?_);((repeat ((with_reducible refine And.intro ?_ ?_);(· first | (with_reducible exact True.intro) | (with_reducible assumption) | omega | trivial)));(first | refine AH _ _ ?_ | refine AJ _ _ _ ?_ | refine AJ _ _ _ _ ?_ | refine AG _ _ _ ?_ | refine AG _ _ ?_);(try clear AH AJ AG Jo JU JC));exact hq ⟨⟩)
  | fail):p:=h tg ct (fun _=>hq)
theorem QF {r:List Nat} {c p q:Prop} (tg:Tg r) (ct:c) (hq:q) (h:Tg r→c→(True→q)→p:=by
 intro tg ct hq
 first
  | ((first | ((with_reducible refine uS ct ?_);(first | (with_reducible refine Df ?_) | (with_reducible refine De ?_) | ((with_reducible apply Cq);(· exact rfl)) | ((with_reducible apply Cp);(· exact rfl)));intro Jo JU JC AH AJ AG;refine zH ?_;(repeat ((with_reducible refine And.intro ?_ ?_);(· first | (with_reducible exact True.intro) | (with_reducible assumption) | omega | trivial)))) | ((with_reducible apply fP ct);(· exact rfl);(first | (with_reducible refine Df ?_) | (with_reducible refine De ?_) | ((with_reducible apply Cq);(· exact rfl)) | ((with_reducible apply Cp);(· exact rfl)));intro Jo JU JC AH AJ AG;refine zH ?_;(repeat ((with_reducible refine And.intro ?_ ?_);(· first | (with_reducible exact True.intro) | (with_reducible assumption) | omega | trivial)))) | ((first | (with_reducible refine jW ?_) | ((with_reducible apply XF);(· exact rfl)));(first | (with_reducible refine Df ?_) | (with_reducible refine De ?_) | ((with_reducible apply Cq);(· exact rfl)) | ((with_reducible apply Cp);(· exact rfl)));intro Jo JU JC AH AJ AG;refine zH ?_;(repeat ((with_reducible refine And.intro ?_ ?_);(· first | (with_reducible exact True.intro) | (with_reducible assumption) | omega | trivial)))) | ((with_reducible intro Jo JU JC AH AJ AG);refine zH ?_;(repeat ((with_reducible refine And.intro ?_ ?_);(· first | (with_reducible exact True.intro) | (with_reducible assumption) | omega | trivial)))) | (repeat ((with_reducible refine And.intro ?_ ?_);(· first | (with_reducible exact True.intro) | (with_reducible assumption) | omega | trivial))));(first | ((with_reducible apply Ap.objD tg ct);(· exact zu);(· exact zu);(· decide);(· exact zu);(· exact g8);(· exact Yk);(· exact AK)) | ((with_reducible apply Cn.objD tg ct);(· exact zu);(· exact zu);(· decide);(· exact zu);(· exact g8);(· exact zV);(· exact Yk);(· exact AK)));(try refine zH ?_);((repeat ((with_reducible refine And.intro ?_ ?_);(· first | (with_reducible exact True.intro) | (with_reducible assumption) | omega | trivial)));(first | refine AH _ _ ?_ | refine AJ _ _ _ ?_ | refine AJ _ _ _ _ ?_ | refine AG _ _ _ ?_ | refine AG _ _ ?_);(try clear AH AJ AG Jo JU JC));exact hq ⟨⟩)
  | fail):p:=h tg ct (fun _=>hq)
theorem zB {r:List Nat} {c p q:Prop} (tg:Tg r) (ct:c) (hq:q) (h:Tg r→c→(True→q)→p:=by
 intro tg ct hq
 first
  | ((first | ((with_reducible refine uS ct ?_);(first | (with_reducible refine Df ?_) | (with_reducible refine De ?_) | ((with_reducible apply Cq);(· exact rfl)) | ((with_reducible apply Cp);(· exact rfl)));intro Jo JU JC AH AJ AG;refine zH ?_;(repeat ((with_reducible refine And.intro ?_ ?_);(· first | (with_reducible exact True.intro) | (with_reducible assumption) | omega | trivial)))) | ((with_reducible apply fP ct);(· exact rfl);(first | (with_reducible refine Df ?_) | (with_reducible refine De ?_) | ((with_reducible apply Cq);(· exact rfl)) | ((with_reducible apply Cp);(· exact rfl)));intro Jo JU JC AH AJ AG;refine zH ?_;(repeat ((with_reducible refine And.intro ?_ ?_);(· first | (with_reducible exact True.intro) | (with_reducible assumption) | omega | trivial)))) | ((first | (with_reducible refine jW ?_) | ((with_reducible apply XF);(· exact rfl)));(first | (with_reducible refine Df ?_) | (with_reducible refine De ?_) | ((with_reducible apply Cq);(· exact rfl)) | ((with_reducible apply Cp);(· exact rfl)));intro Jo JU JC AH AJ AG;refine zH ?_;(repeat ((with_reducible refine And.intro ?_ ?_);(· first | (with_reducible exact True.intro) | (with_reducible assumption) | omega | trivial)))) | ((with_reducible intro Jo JU JC AH AJ AG);refine zH ?_;(repeat ((with_reducible refine And.intro ?_ ?_);(· first | (with_reducible exact True.intro) | (with_reducible assumption) | omega | trivial)))) | (repeat ((with_reducible refine And.intro ?_ ?_);(· first | (with_reducible exact True.intro) | (with_reducible assumption) | omega | trivial))));(first | ((with_reducible apply Ap.objT tg ct);(· exact zu);(· exact zu);(· decide);(· exact zu);(· exact uI);(· exact Yk);(· exact AK)) | ((with_reducible apply Cn.objT tg ct);(· exact zu);(· exact zu);(· decide);(· exact zu);(· exact uI);(· exact zV);(· exact Yk);(· exact AK)));(try refine zH ?_);((repeat ((with_reducible refine And.intro ?_ ?_);(· first | (with_reducible exact True.intro) | (with_reducible assumption) | omega | trivial)));(first | refine AH _ _ ?_ | refine AJ _ _ _ ?_ | refine AJ _ _ _ _ ?_ | refine AG _ _ _ ?_ | refine AG _ _ ?_);(try clear AH AJ AG Jo JU JC));exact hq ⟨⟩)
  | fail):p:=h tg ct (fun _=>hq)
theorem zX {r:List Nat} {c p q:Prop} (tg:Tg r) (ct:c) (hq:q) (h:Tg r→c→(True→q)→p:=by
 intro tg ct hq
 first
  | (((with_reducible apply Ap.objE tg ct);(· exact zu);(· exact zu);(· decide);(· exact zu);(· exact pR);(· intro xr;exact Yk);(· intro xr;exact AK));intro xr hxr;(try refine zH ?_);refine AG _ _ _ ?_;revert xr hxr;exact hq ⟨⟩)
  | fail):p:=h tg ct (fun _=>hq)
theorem vK {r:List Nat} {c p q:Prop} (tg:Tg r) (ct:c) (hq:q) (h:Tg r→c→(True→q)→p:=by
 intro tg ct hq
 first
  | (((with_reducible apply Ap.objE tg ct);(· exact zu);(· exact zu);(· decide);(· exact zu);(· exact g8);(· intro xr;exact Yk);(· intro xr;exact AK));intro xr hxr;(try refine zH ?_);refine AG _ _ _ ?_;revert xr hxr;exact hq ⟨⟩)
  | fail):p:=h tg ct (fun _=>hq)
theorem r9 {r:List Nat} {c p q:Prop} (tg:Tg r) (ct:c) (hq:q) (h:Tg r→c→(True→q)→p:=by
 intro tg ct hq
 first
  | (((with_reducible apply Cn.objE tg ct);(· exact zu);(· exact zu);(· decide);(· exact zu);(· exact pR);(· exact zV);(· intro xr;exact Yk);(· intro xr;exact AK));intro xr hxr;(try refine zH ?_);refine AG _ _ ?_;revert xr hxr;exact hq ⟨⟩)
  | fail):p:=h tg ct (fun _=>hq)
theorem jY {r:List Nat} {c p q:Prop} (tg:Tg r) (ct:c) (hq:q) (h:Tg r→c→(True→q)→p:=by
 intro tg ct hq
 first
  | (((with_reducible apply Ap.objET tg ct);(· exact zu);(· exact zu);(· decide);(· exact zu);(· intro xr;exact uI);(· intro xr;exact Yk);(· intro xr;exact AK));intro xr hxr;(try refine zH ?_);refine AG _ _ _ ?_;revert xr hxr;exact hq ⟨⟩)
  | fail):p:=h tg ct (fun _=>hq)
theorem zl {p:Prop} (h:p:=by
 first
  | (repeat first | exact Y6.nil | (refine Y6.cons ?_ ?_;(· first | exact An.rfl' | exact An.nil _ _ | exact An.eq rfl | exact An.eq (by exact AK) | exact An.sl _ _ _ | exact An.low _ | (simpa only [AV.low,lowL_eGps,Vs,lowL_eGp] using An.low _) | exact An.any _)))
  | fail):p:=h
theorem C8 {p:Prop} (h:p:=by
 first
  | (refine ⟨?_,?_⟩;(· (refine zE ?_;exact zl));(· first | rfl | exact AK | (refine zE ?_;rfl)))
  | fail):p:=h
theorem CZ {p:Prop} (h:p:=by
 first
  | (refine ⟨?_,?_⟩;(· (refine zF ?_;exact zl));(· first | rfl | exact wI | (refine zF ?_;rfl)))
  | fail):p:=h
theorem vV {p:Prop} (h:p:=by
 first
  | (first | exact An.nil _ _ | exact An.rfl' | exact An.eq rfl | exact An.sl _ _ _ | (simpa only [AV.low,lowL,lowL_eGps,Vs,lowL_eGp,lowL_eGps] using An.low _))
  | fail):p:=h
theorem GQ {p q:Prop} (hq:q) (h:(True→q)→p:=by
 intro hq
 first
  | ((first | exact EO.nil | (refine EO.cons ?_ ?_;(· exact vV)));exact hq ⟨⟩)
  | fail):p:=h (fun _=>hq)
theorem Aa {p q1 q2:Prop} {ne:Nat} (l:List (Nat×Nat)) (hq1:q1) (hq2:q2) (h:C0 ne l→(True→q1)→(True→q2)→p:=by
 intro hl hq1 hq2
 first
  | (refine EH ?_;refine zU ?_;refine ⟨_, .rfl', .inr rfl,?_,_,2,hl,?_⟩;(· exact hq1 ⟨⟩);(· exact hq2 ⟨⟩))
  | fail) (hl:C0 ne l:=by exact zg):p:=h hl (fun _=>hq1) (fun _=>hq2)
theorem Kh {p q1 q2:Prop} {ne:Nat} (l:List (Nat×Nat)) (hq1:q1) (hq2:q2) (h:C0 ne l→(True→q1)→(True→q2)→p:=by
 intro hl hq1 hq2
 first
  | ((repeat first | (with_reducible refine DO ?_) | (with_reducible refine Cw ?_) | (with_reducible refine J9 ?_));refine ⟨_, .rfl', .inl rfl,?_,_,2,hl,?_⟩;(· exact hq1 ⟨⟩);(· exact hq2 ⟨⟩))
  | fail) (hl:C0 ne l:=by exact zg):p:=h hl (fun _=>hq1) (fun _=>hq2)
end Go.Proofs.YthblfhgofopcaaaGreat
