/-
  Parts of the proof: LiftForms.
-/
import Derived.Test.YthblfhgofopcaaaGreatFO20
import Derived.Test.YthblfhgofopcaaaGreatFO19
import Derived.JoinedCond
set_option linter.all false
namespace Go.Proofs.YthblfhgofopcaaaGreat.shapeForms
open Go.ChangeShapes Go.WideShapes Go.ChangeAt Go.RowKit
theorem xF {H:Type} (d:DataW H):1≤Rows.uptoBulk d:=by
 cases d with
 | lit l=>cases l<;>simp [Rows.uptoBulk]
 | nil=>simp [Rows.uptoBulk]
 | ptr d=>simp [Rows.uptoBulk]
 | slice elems spare=>simp [Rows.uptoBulk]
 | agg parts=>simp [Rows.uptoBulk]
 | iface t d=>simp [Rows.uptoBulk]
 | map entries=>simp [Rows.uptoBulk]
 | held h=>simp [Rows.uptoBulk]
theorem xB {H:Type} {d:DataW H} {l:List (DataW H)} (h:d∈l):Rows.uptoBulk d≤Rows.uptoBulkAll l:=by
 induction l with
 | nil=>cases h
 | cons x r ih =>
  simp only [Rows.uptoBulkAll];cases List.mem_cons.1 h with
  | inl e=>subst e;omega
  | inr e=>have:=ih e;omega
theorem wT {H:Type} (l:List (DataW H)):l.length≤Rows.uptoBulkAll l:=by
 induction l with
 | nil=>simp [Rows.uptoBulkAll]
 | cons x r ih=>have:=xF x;simp only [Rows.uptoBulkAll,List.length_cons];omega
theorem wN {H:Type} {enc:TypeId×Value→H} {P:Program} {W:World} {spare:Nat→Bool} {held:Bool} {t e:TypeId} {A:Option Addr} {n c:Nat} {d:DataW H} {p:List MemPlace} (ht:P.underlying t=some (.slice e))
  (h:DataW.Trod enc P W 0 spare held t (.slice A n c) d p):n≤Rows.uptoBulk d:=by
 obtain ⟨fuel,h⟩:=h;rcases Go.Deep.open_slice ht h with ⟨hcs,_⟩|⟨a,len,cap,m,q,D,Pl,hcs,_,_,_,_,hx,_⟩
 ·change [Value.slice A n c]=[.slice none 0 0] at hcs;simp at hcs;omega
 ·change [Value.slice A n c]=[.slice (some a) len cap] at hcs;simp at hcs;obtain ⟨_,rfl,_⟩:=hcs;injection hx with hd _
  rw [hd];have:=wT ((List.range n).map D);simp only [Rows.uptoBulk];simp at this;omega
set_option maxRecDepth 100000 in
theorem w7 (H:Type) (enc:TypeId×Value→H) (W:World) (base:Nat) (args:Array Value) (ds gs:List (DataW H)) (before:List MemPlace)
  (hval0:∀(j:Nat) t v,Tryz.f3.params[j]? =some t→args[j]? =some v→Value.okWide Tryz.prog W .any base t v)
  (hW:DataW.Whole enc Tryz.prog Tryz.f3.params.toList Rows.shapeFormsSpec.vars false W args.toList ds gs before) (hk:Rows.uptoSmall H (ds++gs)=true) :
  Calls Tryz.prog 3 args W fun e W' =>∃v,e= .returned v∧Rows.shapeFormsSpec.post enc Tryz.prog Tryz.f3 false true false false W args v W' :=by
 have hval:∀(j:Nat) t v,Tryz.f3.params[j]? =some t→args[j]? =some v→Value.okWide Tryz.prog W .any base t v:=hval0;have hW' :=hW;obtain ⟨p,q,hA0,hV,rfl,hfz,hnd⟩:=hW;have hA:DataW.TrodAll enc Tryz.prog W 0 (fun _=>true) true Tryz.f3.params.toList args.toList ds p:=hA0;rw [Tryz.params3] at hA hval;obtain ⟨v0,vs0,d0,ds0,p0,q0,hargs,rfl,rfl,h0,r0⟩:=trodAll_cons hA;obtain ⟨v1,vs1,d1,ds1,p1,q1,rfl,rfl,rfl,h1,r1⟩:=trodAll_cons r0;obtain ⟨v2,vs2,d2,ds2,p2,q2,rfl,rfl,rfl,h2,r2⟩:=trodAll_cons r1;obtain ⟨v3,vs3,d3,ds3,p3,q3,rfl,rfl,rfl,h3,r3⟩:=trodAll_cons r2;obtain ⟨v4,vs4,d4,ds4,p4,q4,rfl,rfl,rfl,h4,r4⟩:=trodAll_cons r3;obtain ⟨v5,vs5,d5,ds5,qp5,q5,rfl,rfl,rfl,h5,r5⟩:=trodAll_cons r4;obtain ⟨rfl,rfl,rfl⟩:=trodAll_nil r5;obtain rfl:args= #[v0,v1,v2,v3,v4,v5]:=by cases args;simp_all
 obtain ⟨rfl,rfl⟩:=trodVars_none hV;have k0:=h0;have lt0:∀x∈p0,x.block<W.heap.size:=by obtain ⟨m,hm⟩:=k0;exact DataW.trod_lt m _ _ _ hm
 obtain ⟨z0,w0,x0⟩:∃s:AL,F5 W v0 s∧QN s:=by
  obtain ⟨fuel,hf⟩:=h0;exact JJ (hval 0 24 v0 rfl rfl) ⟨fuel,hf⟩ rfl
 have k1:=h1;have lt1:∀x∈p1,x.block<W.heap.size:=by obtain ⟨m,hm⟩:=k1;exact DataW.trod_lt m _ _ _ hm
 obtain ⟨z1,w1⟩:=l4 (hval 1 26 v1 rfl rfl) h1 rfl;have k2:=h2;have lt2:∀x∈p2,x.block<W.heap.size:=by obtain ⟨m,hm⟩:=k2;exact DataW.trod_lt m _ _ _ hm
 obtain ⟨qA2,l2,c2,rfl⟩:=okWide_slice Tryz.underlying27 (hval 2 27 v2 rfl rfl);obtain ⟨z2,w2⟩:∃l,OY W (.slice qA2 l2 c2) l:=by
  obtain ⟨fuel,hf⟩:=h2;exact JA Tryz.underlying27 hf rfl
 have k3:=h3;have lt3:∀x∈p3,x.block<W.heap.size:=by obtain ⟨m,hm⟩:=k3;exact DataW.trod_lt m _ _ _ hm
 obtain ⟨A3,l3,c3,rfl⟩:=okWide_slice Tryz.underlying22 (hval 3 22 v3 rfl rfl);obtain ⟨z3,w3,x3⟩:∃zs,BO W (.slice A3 l3 c3) zs∧∀z∈zs,(Lit.int .i64 z).wf=true:=by
  obtain ⟨fuel,hf⟩:=h3;exact DE Tryz.underlying22 hf rfl
 obtain ⟨a4,rfl,rfl,rfl,w4⟩:=open_int Tryz.underlying3 (hval 4 3 v4 rfl rfl) h4;obtain ⟨a5,rfl,rfl,rfl,w5⟩:=open_int Tryz.underlying3 (hval 5 3 v5 rfl rfl) h5;clear hA0 hval0;have hb:Rows.uptoBulkAll ([d0,d1,d2,d3, .lit (.int .i64 a4), .lit (.int .i64 a5)]++[])≤1048576:=of_decide_eq_true hk;have h2b:=wN Tryz.underlying27 h2;have h2c:=xB (d:=d2) (l:=[d0,d1,d2,d3, .lit (.int .i64 a4), .lit (.int .i64 a5)]++[]) (by simp);have hl2:z2.length=l2:=by
  obtain ⟨_,_,e,_⟩:=w2;injection e with _ e _;exact e.symm
 refine (Z1 _ z0 _ z1 _ z2 _ z3 a4 a5 W w0 x0 w1 w2 w3 x3 w4 w5 (by omega)).mono fun e W' ⟨he,bel⟩=> ?_
 subst he;exact ⟨_,rfl,_,_,_,[],_,[],hW',trodAll_mk1 (shut_bool Tryz.underlying4 _),(trodAll_cons_mk (Below.trod FH (by kernel_rfl) (of_decide_eq_true (by kernel_rfl)) k0 bel lt0) (trodAll_cons_mk (Below.trod FH (by kernel_rfl) (of_decide_eq_true (by kernel_rfl)) k1 bel lt1) (trodAll_cons_mk (Below.trod FH (by kernel_rfl) (of_decide_eq_true (by kernel_rfl)) k2 bel lt2) (trodAll_cons_mk (Below.trod FH (by kernel_rfl) (of_decide_eq_true (by kernel_rfl)) k3 bel lt3) (trodAll_cons_mk (shut_int Tryz.underlying3 w4) (trodAll_cons_mk (shut_int Tryz.underlying3 w5) trodAll_mk0)))))),rfl,Below.frame bel _,fun h=>by cases h⟩
set_option maxRecDepth 100000 in
theorem lifted (os:Os) (started:os.Started) (H:Type) (enc:TypeId×Value→H) (F:Stop.Interp) :
  ReturnsInHanded {} Tryz.checked os 3 .any ((Rows.OpenSpec.upto Rows.shapeFormsSpec).pre6 enc Tryz.prog Tryz.f3 Rows.shapeFormsUptoRow.domain false) (((Rows.OpenSpec.upto Rows.shapeFormsSpec).at F).post enc Tryz.prog Tryz.f3 false true false false):=by
 refine returnsInHanded_of_cond (C:=Tryz.checked) (s:=Rows.OpenSpec.upto Rows.shapeFormsSpec) (k:=Rows.uptoSmall) rfl Rb started (by kernel_rfl) Tryz.func3
  (OpenSpec.witness (enc:=enc) (C:=Tryz.checked) (s:=Rows.OpenSpec.upto Rows.shapeFormsSpec) (k:=Rows.uptoSmall) rfl false ⟨#[],#[.agg #[.int .i64 0, .slice none 0 0, .int .i64 0, .int .i64 0, .int .i64 0, .int .i64 0, .int .i64 0, .int .i64 0, .slice none 0 0], .agg #[.int .i64 0, .slice none 0 0, .bool false], .slice none 0 0, .slice none 0 0, .int .i64 0, .int .i64 0],[]⟩ 8 (by kernel_rfl) (by kernel_rfl) (by kernel_rfl)
   (x:=([.agg [.lit (.int .i64 0), .nil, .lit (.int .i64 0), .lit (.int .i64 0), .lit (.int .i64 0), .lit (.int .i64 0), .lit (.int .i64 0), .lit (.int .i64 0), .nil], .agg [.lit (.int .i64 0), .nil, .lit (.bool false)], .nil, .nil, .lit (.int .i64 0), .lit (.int .i64 0)],[],[])) (by kernel_rfl) rfl (by kernel_rfl)) ?_
 intro W base args ds gs before hval hW _ hk _;exact w7 H enc W base args ds gs before hval hW hk
end Go.Proofs.YthblfhgofopcaaaGreat.shapeForms
