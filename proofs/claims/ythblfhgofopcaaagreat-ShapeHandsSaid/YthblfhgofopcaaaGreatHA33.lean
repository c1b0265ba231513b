/-
  Parts of the proof: RefV, RefW, RefP, ConM, JobA, Apart, CatV, ConS, RdM, Knd.
-/
import Derived.Test.YthblfhgofopcaaaGreatHA17
import Derived.Test.YthblfhgofopcaaaGreatHA31
import Derived.Test.YthblfhgofopcaaaGreatHA14
import Derived.Test.YthblfhgofopcaaaGreatHA32
import Derived.Test.YthblfhgofopcaaaGreatHA16
import Derived.Test.YthblfhgofopcaaaGreatHA26
import Derived.Lib.AppendZerosOnto
import Derived.Lib.SliceRun
import Derived.Lib.Walk
import Derived.Test.YthblfhgofopcaaaGreatHA24
set_option linter.all false
namespace Go.Proofs.YthblfhgofopcaaaGreat
open Go.RowKit
set_option maxRecDepth 100000
set_option maxHeartbeats 2000000
theorem decAt {X : List Int} {z : Int} (h0 : 0 ≤ z) (h1 : z < (X.length : Int)) (hX : ∀ i, -1000000000 ≤ X.getD i 0 ∧ X.getD i 0 ≤ 1000000000) : ∃ hl : z.toNat < X.length, IntKind.i64.wrap (X[z.toNat] - 1) = X.getD z.toNat 0 - 1 ∧ (X.map I).set z.toNat (I (X.getD z.toNat 0 - 1)) = (dec1 X z).map I := by
 have hl : z.toNat < X.length := by omega
 have e : X[z.toNat] = X.getD z.toNat 0 := by simp [hl]
 have := hX z.toNat
 exact ⟨hl, by rw [e]; exact vwrap_in (by omega) (by omega), by rw [set_mapI]; rfl⟩
theorem decL_take (X ks : List Int) {j : Nat} (h : j < ks.length) : dec1 (decL X (ks.take j)) ks[j] = decL X (ks.take (j + 1)) := by
 unfold decL
 rw [List.take_succ_eq_append_getElem h, List.foldl_append]; rfl
def Sb (X : List Int) : Prop := ∀ i, 0 ≤ X.getD i 0 ∧ X.getD i 0 ≤ 1000
end Go.Proofs.YthblfhgofopcaaaGreat

namespace Go.Proofs.YthblfhgofopcaaaGreat
open Go.RowKit
set_option maxRecDepth 100000
set_option maxHeartbeats 2000000
section
theorem rel_low {c : Cx} {h : HF} {x : AV} {y : Value} (k : RelV c h x y) : RelV c h x.low y := k.low rfl fun f b hs => ⟨hs.1, hs.2.1, by rcases hs.2.2 with h | h | ⟨_, h⟩ <;> simp [h]⟩
theorem asays_low {P : Program} {f : Nat} {ys : List AV} {res : AV} (h : ACall P f ys [] fun x hl => x.low = res ∧ hl = []) : ASays P f ys res := by
 refine ⟨h.1, fun c vals hn hh hr => (h.2 c vals hn hh hr).mono ?_⟩
 rintro e w' ⟨v, x, hl, c', e1, e2, ⟨rfl, rfl⟩, k1, k2, k3⟩
 exact ⟨v, x.low, [], c', e1, e2, ⟨rfl, rfl⟩, k1, k2, rel_low k3⟩
end
end Go.Proofs.YthblfhgofopcaaaGreat

namespace Go.Proofs.YthblfhgofopcaaaGreat
open Go.RowKit
set_option maxRecDepth 100000
set_option maxHeartbeats 2000000
theorem asays_le {P : Program} {f : Nat} {ys : List AV} {res : AV} (h : ACall P f ys [] fun x hl => LeV x res ∧ hl = []) : ASays P f ys res := by
 refine ⟨h.1, fun c vals hn hh hr => (h.2 c vals hn hh hr).mono ?_⟩
 rintro e w' ⟨v, x, hl, c', e1, e2, ⟨hx, rfl⟩, k1, k2, k3⟩
 exact ⟨v, res, [], c', e1, e2, ⟨rfl, rfl⟩, k1, k2, hx _ _ _ k3⟩
end Go.Proofs.YthblfhgofopcaaaGreat

namespace Go.Proofs.YthblfhgofopcaaaGreat
def rawE (bag : List Int) : Nat → List Gp
 | 0 => []
 | k + 1 => rawE bag k ++ (if bag.getD k 0 = 1 then [gp 5 k] else if bag.getD k 0 = 2 then [gp 4 k] else [])
def Rise (ks : List Int) : Prop := ks.Pairwise (· < ·)
theorem rise_ext : ∀ {l m : List Int}, Rise l → Rise m → (∀ x, x ∈ l ↔ x ∈ m) → l = m
 | [], [], _, _, _ => rfl
 | [], b :: m, _, _, h => absurd ((h b).2 (by simp)) (by simp)
 | a :: l, [], _, _, h => absurd ((h a).1 (by simp)) (by simp)
 | a :: l, b :: m, hl, hm, h => by
  have hl' := List.pairwise_cons.1 hl
  have hm' := List.pairwise_cons.1 hm
  have hab : a = b := by
   rcases List.mem_cons.1 ((h a).1 (by simp)) with e | h1
   ·exact e
   ·rcases List.mem_cons.1 ((h b).2 (by simp)) with e | h2
    ·exact e.symm
    ·have k1 := hm'.1 a h1
     have k2 := hl'.1 b h2
     omega
  subst hab
  rw [rise_ext hl'.2 hm'.2 fun x => ⟨fun hx => ?_, fun hx => ?_⟩]
  ·rcases List.mem_cons.1 ((h x).1 (by simp [hx])) with e | h1
   ·subst e; have := hl'.1 x hx; omega
   ·exact h1
  ·rcases List.mem_cons.1 ((h x).2 (by simp [hx])) with e | h1
   ·subst e; have := hm'.1 x hx; omega
   ·exact h1
def upTo : Nat → List Int
 | 0 => []
 | k + 1 => upTo k ++ [(k : Int)]
theorem mem_upTo {x : Int} : ∀ {n : Nat}, x ∈ upTo n ↔ 0 ≤ x ∧ x < (n : Int)
 | 0 => by simp only [upTo, List.not_mem_nil, false_iff]; omega
 | n + 1 => by rw [upTo, List.mem_append, mem_upTo]; simp; omega
theorem upTo_rise : ∀ n, Rise (upTo n)
 | 0 => List.Pairwise.nil
 | n + 1 => by
  unfold Rise; rw [upTo, List.pairwise_append]
  exact ⟨upTo_rise n, by simp, fun a ha b hb => by simp at hb; have := mem_upTo.1 ha; omega⟩
theorem rise_filter {ks : List Int} (h : Rise ks) (p : Int → Bool) : Rise (ks.filter p) := List.Pairwise.filter p h
theorem rise_eq {ks : List Int} {n : Nat} (h : Rise ks) (hb : InB n ks) : ks = (upTo n).filter fun z => ks.any fun y => y == z := by
 refine rise_ext h (rise_filter (upTo_rise n) _) fun x => ?_
 rw [List.mem_filter, mem_upTo, List.any_eq_true]
 constructor
 ·intro hx
  exact ⟨hb x hx, x, hx, by simp⟩
 ·rintro ⟨_, y, hy, he⟩
  simp at he; subst he; exact hy
def cntL (ks : List Int) (n : Nat) : List Int := incL (List.replicate n 0) ks
theorem cntL_len (ks : List Int) (n : Nat) : (cntL ks n).length = n := by rw [cntL, incL_len]; simp
end Go.Proofs.YthblfhgofopcaaaGreat

namespace Go.Proofs.YthblfhgofopcaaaGreat
open Go.RowKit
set_option maxRecDepth 100000
set_option maxHeartbeats 2000000
def eJob (s : TSet) (f : Fm) (h : Hd) : AV := .agg [I s.pl, eInts false s.su, I s.wi, I s.dr, I s.fl, I s.co, I s.me, I s.de, eInts false s.re, I f.wh, eInts false f.ks, B f.ag, eInts false h.bag, eGps false h.me]
end Go.Proofs.YthblfhgofopcaaaGreat

namespace Go.Proofs.YthblfhgofopcaaaGreat
open Go.RowKit
set_option maxRecDepth 100000
set_option maxHeartbeats 2000000
def jobF (wh : Int) : Nat := if wh = 1 then 133 else if wh = 2 then 134 else if wh = 3 then 135 else if wh = 4 then 136 else if wh = 5 then 137 else 138
def mostI (s : TSet) (f : Fm) : Int := if f.wh = 1 then s.me else if f.wh = 5 then s.me - 3 else 0
set_option maxHeartbeats 4000000 in
theorem says_apart (s : TSet) (f : Fm) (h : Hd) (c : List (List Gp)) (hw : 1 ≤ f.wh ∧ f.wh ≤ 6) (hme : 1 ≤ s.me ∧ s.me ≤ 4) (hml : h.me.length ≤ 1000) (CJ : (h.me.length : Int) ≤ mostI s f → ASays Tryz.prog (jobF f.wh) [eJob s f h] (eLL false c)) : ASays Tryz.prog 88 [eSet s, eFm false f, eHd false h] (eLL false (if (h.me.length : Int) ≤ mostI s f then c else [])) := by
 refine asays_le ?_
 have hw' : f.wh = 1 ∨ f.wh = 2 ∨ f.wh = 3 ∨ f.wh = 4 ∨ f.wh = 5 ∨ f.wh = 6 := by omega
 by_cases hl : (h.me.length : Int) ≤ mostI s f
 ·rw [if_pos hl]
  replace CJ := CJ hl
  unfold mostI at hl
  unfold jobF at CJ
  rcases hw' with e | e | e | e | e | e
  all_goals
   simp only [eJob, e] at hl CJ
   simp (decide := true) only [↓reduceIte] at hl CJ
   refine acall_ofW (nx := 0) (ne := 0) tysGood (DD_ok tysGood mixed _) Tryz.func88 (by rfl) (by rfl) (by simp [Tryz.ntmps88]) (fun p hp => by cases hp) ?_; rw [Tryz.ntmps88]; let tb := ord_88; let lv := live_88
   (have fa := (And.intro @eJob.eq_1 e); (repeat' first | refine zS (CJ) ?_ | refine zQ ?_ | (refine zN ?_; intro K hC hK) | ((repeat clear hJo hJU hJC Jo JU JC); (repeat (fail_if_success (refine hK _ ?_)); clear hK hC K); refine hK _ ?_; clear hK hC K) | (refine zC ?_ ?_ <;> intro hb) | (refine zK ?_; intro Jo JU JC hJo hJU hJC)) <;> (try clear fa))
   all_goals first
    | (exfalso; omega)
    | (refine AW_ret ?_; refine zU ?_; refine ⟨_, .rfl', .inr rfl, ?_, [], 2, finOk_nil, ?_⟩ <;> (have fa := zT; first | exact zE0 | (refine zE ?_; try clear fa)); exact .rfl')
    | trace_state
 ·rw [if_neg hl]
  unfold mostI at hl
  clear CJ
  rcases hw' with e | e | e | e | e | e
  all_goals
   simp only [e] at hl
   simp (decide := true) only [↓reduceIte] at hl
   refine acall_ofW (nx := 0) (ne := 0) tysGood (DD_ok tysGood mixed _) Tryz.func88 (by rfl) (by rfl) (by simp [Tryz.ntmps88]) (fun p hp => by cases hp) ?_; rw [Tryz.ntmps88]; let tb := ord_88; let lv := live_88
   (have fa := e; (repeat' first | refine zQ ?_ | (refine zN ?_; intro K hC hK) | ((repeat clear hJo hJU hJC Jo JU JC); (repeat (fail_if_success (refine hK _ ?_)); clear hK hC K); refine hK _ ?_; clear hK hC K) | (refine zC ?_ ?_ <;> intro hb) | (refine zK ?_; intro Jo JU JC hJo hJU hJC)) <;> (try clear fa))
   all_goals first
    | (exfalso; omega)
    | (refine AW_ret ?_; refine zU ?_; refine ⟨_, .rfl', .inr rfl, ?_, [], 2, finOk_nil, ?_⟩ <;> (have fa := zT; first | exact zE0 | (refine zE ?_; try clear fa)); exact LeV.nil _ _)
    | trace_state
end Go.Proofs.YthblfhgofopcaaaGreat

namespace Go.Proofs.YthblfhgofopcaaaGreat
open Go.RowKit
set_option maxRecDepth 100000
set_option maxHeartbeats 2000000
theorem infoGp : (Tryz.prog.info? 72).map (fun i => (i.zero, i.size, i.bytes)) = some (some (.agg #[.int .i64 0, .int .i64 0, .bool false]), 3, 24) := by kernel_rfl
theorem growG_nil (n : Nat) (w : World) (hp : 0 < n) (hn : n ≤ 1000000) : Calls Tryz.prog 139 #[.slice none 0 0, .int .i64 (n : Int)] w fun e w' => ∃ G cells, e = .returned (.slice (some ⟨w.heap.size, 0, none⟩) 0 G) ∧ w' = w.drew.alloc (.cells cells 72) ∧ G ≤ maxLen ∧ cells.size = G * 3 := by
 have hinf := infoGp
 cases hi0 : Tryz.prog.info? 72 with
 | none => rw [hi0] at hinf; cases hinf
 | some i0 =>
 rw [hi0] at hinf
 simp only [Option.map_some, Option.some.injEq, Prod.mk.injEq] at hinf
 obtain ⟨hz0, hz1, hz2⟩ := hinf
 have hold : (Builtin.firstCells i0.size 0 (.slice none 0 0)).run Tryz.prog w.drew = .ok #[] w.drew := run_firstCells_none w.drew i0.size 0 0 0
 have hrz := fun ty => Lib.run_append_grow_zeros (P := Tryz.prog) w 29 3 ty 72 i0 _ .i64 .i64 Tryz.underlying29 Tryz.underlying3 hi0 hz0 none 0 0 [] hold n hp (by omega) (by omega) (by omega) (by rw [hz2]; omega) (by rw [Nat.zero_add, hz2]; exact nextcap_le (by omega) (by omega) (by omega))
 simp only [Nat.zero_add] at hrz
 have hge := grownCap_ge w n 0 72
 have hG63 := grownCap_le_maxLen w n 0 72 (by unfold maxLen; omega)
 obtain ⟨G, hG⟩ : ∃ G, G = grownCap w n 0 72 := ⟨_, rfl⟩
 rw [← hG] at hrz hge hG63
 generalize hcells : (#[] ++ Builtin.zeroCells (Value.agg #[Value.int IntKind.i64 0, Value.int IntKind.i64 0, Value.bool false]).cells n ++ Builtin.zeroCells (Value.agg #[Value.int IntKind.i64 0, Value.int IntKind.i64 0, Value.bool false]).cells (G - n) : Array Value) = cells at hrz
 have hcs : cells.size = G * 3 := by
  have z3 : ∀ m, (Builtin.zeroCells (Value.agg #[Value.int IntKind.i64 0, Value.int IntKind.i64 0, Value.bool false]).cells m).size = m * 3 := fun m => by simp [Builtin.zeroCells, Value.cells]
  rw [← hcells, Array.size_append, Array.size_append, z3, z3]; simp; omega
 have HRZ := hid hrz
 have FIN := hid (show ∃ G' cells', Ending.returned (Value.slice (some ⟨w.heap.size, 0, none⟩) 0 G) = Ending.returned (.slice (some ⟨w.heap.size, 0, none⟩) 0 G') ∧ w.drew.alloc (.cells cells 72) = w.drew.alloc (.cells cells' 72) ∧ G' ≤ maxLen ∧ cells'.size = G' * 3 from ⟨G, cells, rfl, rfl, hG63, hcs⟩)
 have G0 : (0 : Int) ≤ (G : Int) := by omega
 unfold maxLen at hG63
 clear hold hG hrz hcells
 have n0 : (0 : Int) < (n : Int) := by omega
 go_enter Tryz.func139, Tryz.ntmps139
 go_wp2_with (at_builtin; refine Lib.wpList_append_run _ rfl _ _ _ _ rfl _ _ rfl rfl _ _ (HRZ.out _) ?_)
 go_ret
 exact FIN.out
theorem own_Grow (n : Nat) (hp : 0 < n) (hn : n ≤ 1000000) : AOwn Tryz.prog 139 [nilA, I n] (.rsl 0 0 0 0) [(0, .arr 0 3 [])] := by
 refine ⟨⟨_, _, Tryz.func139, rfl, rfl⟩, fun c vals hn0 hh hx => ?_⟩
 obtain ⟨v, v', rfl, k1, k2⟩ := relL_2 hx
 have e1 := inv_v k1
 have e2 := inv_v k2
 subst e1 e2
 refine (growG_nil n c.w hp hn).mono ?_
 rintro e w' ⟨G, cells, rfl, rfl, h1, h2⟩
 have hD : RelH { c with w := c.w.drew } (lk [] .nil) := hh.keep_drew
 have hKD : Keep c (lk [] .nil) { c with w := c.w.drew } (lk [] .nil) := Keep.grow ((Grow.refl _).drew) (.inr (Nat.le_succ _))
 obtain ⟨K, H, q1⟩ := new_obj hD (nm := 0) rfl 3 [] cells 72 (by simp) (fun i e h => by simp at h) (fun i e j x h => by simp at h)
 have eh : lk [(0, Ob.arr 0 3 [])] .nil = ups [(0, .arr 0 3 [])] (lk [] .nil) := by
  funext r
  by_cases hr : r = 0
  ·subst hr; simp [lk, ups]
  ·simp [lk, ups, hr, Ne.symm hr]
 obtain ⟨c', hw, K', H', r1, b1⟩ : ∃ c' : Cx, c'.w = c.w.drew.alloc (.cells cells 72) ∧ Keep c (lk [] .nil) c' (lk [(0, Ob.arr 0 3 [])] .nil) ∧ RelH c' (lk [(0, Ob.arr 0 3 [])] .nil) ∧ c'.rl 0 = true ∧ c'.bl 0 = c.w.heap.size := by
  rw [eh]; exact ⟨_, rfl, hKD.trans K, H, by simp, by simp⟩
 refine ⟨_, _, _, c', rfl, hw, ⟨rfl, rfl⟩, K', H', .rsl _ _ _ _ _ rfl ?_⟩
 refine ⟨Nat.le_refl _, fun _ => ⟨_, _, rfl, Nat.zero_le _, h1, fun _ => ⟨r1, by rw [b1], cells, 72, ?_, ?_⟩⟩⟩
 ·rw [hw, b1]; exact heap_alloc_new c.w.drew _
 ·rw [h2]; simp
def pre2 (a b : List Gp) : Nat → List Gp
 | 0 => []
 | 1 => a
 | _ => a ++ b
set_option maxHeartbeats 2000000 in
theorem says_Concat (a b : List Gp) (h0 : 0 < a.length + b.length) (hl : a.length + b.length ≤ 1000000) : ASays Tryz.prog 89 [.sl false 1 [eGps false a, eGps false b]] (eGps true (a ++ b)) := by
 have CG := own_Grow (a.length + b.length) h0 hl
 have p0 : pre2 a b 0 = [] := rfl
 have p1 : pre2 a b 1 = a := rfl
 have p1' : pre2 a b (0 + 1) = a := rfl
 have p2 : pre2 a b 2 = a ++ b := rfl
 have p2' : pre2 a b (1 + 1) = a ++ b := rfl
 have hab : (a ++ b).length = a.length + b.length := by simp
 refine acall_ofW (nx := 0) (ne := 0) tysGood (DD_ok tysGood mixed _) Tryz.func89 (by rfl) (by rfl) (by simp [Tryz.ntmps89]) (fun p hp => by cases hp) ?_; rw [Tryz.ntmps89]; let tb := ord_89; let lv := live_89
 (have fa := zT; (repeat' first | refine zQ ?_ | (refine zN ?_; intro K hC hK) | ((repeat clear hJo hJU hJC Jo JU JC); (repeat (fail_if_success (refine hK _ ?_)); clear hK hC K); refine hK _ ?_; clear hK hC K) | (refine zC ?_ ?_ <;> intro hb) | (refine zK ?_; intro Jo JU JC hJo hJU hJC)) <;> (try clear fa))
 refine AW_forC 2 (fun j σ => σ = ⟨900, [(0, .sl false 1 [eGps false a, eGps false b]), (3, I (pre2 a b j).length), (9, .sl false 1 [eGps false a, eGps false b]), (10, I 2), (11, I j)], []⟩) [] [] 0 [0, 3, 9, 10, 11] 900 (finOk0 (by decide) (by decide)) (finOk0 (by decide) (by decide)) (by (have fa := (And.intro p0 @List.length_nil.{0}); exact zV)) ?_
 rintro j σ' hj rfl J hcJ hJ
 have hj3 : j = 0 ∨ j = 1 ∨ j = 2 := by omega
 rcases hj3 with rfl | rfl | rfl
 ·(have fa := (And.intro p0 @List.length_nil.{0}); (repeat' first | refine zQ ?_ | (refine zN ?_; intro K hC hK) | ((repeat clear hJo hJU hJC Jo JU JC); (repeat (fail_if_success (refine hK _ ?_)); clear hK hC K); refine hK _ ?_; clear hK hC K) | (refine zC ?_ ?_ <;> intro hb) | (refine zK ?_; intro Jo JU JC hJo hJU hJC)) <;> (try clear fa))
  exact hJ _ (by omega) (by (have fa := (And.intro p1' Int.zero_add); exact zV))
 ·(have fa := p1; (repeat' first | refine zQ ?_ | (refine zN ?_; intro K hC hK) | ((repeat clear hJo hJU hJC Jo JU JC); (repeat (fail_if_success (refine hK _ ?_)); clear hK hC K); refine hK _ ?_; clear hK hC K) | (refine zC ?_ ?_ <;> intro hb) | (refine zK ?_; intro Jo JU JC hJo hJU hJC)) <;> (try clear fa))
  exact hJ _ (by omega) (by (have fa := (And.intro p2' (And.intro hab Int.natCast_add)); exact zV))
 ·(have fa := (And.intro p2 hab); (repeat' first | refine zO (CG) ?_ | refine zQ ?_ | (refine zN ?_; intro K hC hK) | ((repeat clear hJo hJU hJC Jo JU JC); (repeat (fail_if_success (refine hK _ ?_)); clear hK hC K); refine hK _ ?_; clear hK hC K) | (refine zC ?_ ?_ <;> intro hb) | (refine zK ?_; intro Jo JU JC hJo hJU hJC)) <;> (try clear fa))
  refine AW_forC 2 (fun j σ => ∃ g, σ = ⟨1900, [(6, .rsl 0 g 0 (pre2 a b j).length), (25, .sl false 1 [eGps false a, eGps false b]), (26, I 2), (27, I j)], [(0, .arr g 3 ((pre2 a b j).map eGp))]⟩) [(932, 0)] [(0, 0)] 0 [6, 25, 26, 27] 1900 (finOk0 (by decide) (by decide)) (finOk0 (by decide) (by decide)) ⟨0, by (have fa := (And.intro p0 (And.intro @List.length_nil.{0} @List.map_nil.{0, 0})); exact zV)⟩ ?_
  rintro j σ' hj ⟨g, rfl⟩ J hcJ hJ
  have hj3 : j = 0 ∨ j = 1 ∨ j = 2 := by omega
  rcases hj3 with rfl | rfl | rfl
  ·(have fa := (And.intro p0 (And.intro @List.length_nil.{0} @List.map_nil.{0, 0})); (repeat' first | refine zQ ?_ | (refine zN ?_; intro K hC hK) | ((repeat clear hJo hJU hJC Jo JU JC); (repeat (fail_if_success (refine hK _ ?_)); clear hK hC K); refine hK _ ?_; clear hK hC K) | (refine zC ?_ ?_ <;> intro hb) | (refine zK ?_; intro Jo JU JC hJo hJU hJC)) <;> (try clear fa))
   exact hJ _ (by omega) ⟨g + 1, by (have fa := p1'; exact zV)⟩
  ·have hT : (a.map eGp).take a.length = a.map eGp := List.take_of_length_le (by simp)
   (have fa := (And.intro p1 hT); (repeat' first | refine zQ ?_ | (refine zN ?_; intro K hC hK) | ((repeat clear hJo hJU hJC Jo JU JC); (repeat (fail_if_success (refine hK _ ?_)); clear hK hC K); refine hK _ ?_; clear hK hC K) | (refine zC ?_ ?_ <;> intro hb) | (refine zK ?_; intro Jo JU JC hJo hJU hJC)) <;> (try clear fa))
   exact hJ _ (by omega) ⟨g + 1, by (have fa := (And.intro p2' hab); exact zV)⟩
  ·have hT : (a ++ b).take (a.length + b.length) = a ++ b := List.take_of_length_le (by simp)
   (have fa := (And.intro p2 hab); (repeat' first | refine zQ ?_ | (refine zN ?_; intro K hC hK) | ((repeat clear hJo hJU hJC Jo JU JC); (repeat (fail_if_success (refine hK _ ?_)); clear hK hC K); refine hK _ ?_; clear hK hC K) | (refine zC ?_ ?_ <;> intro hb) | (refine zK ?_; intro Jo JU JC hJo hJU hJC)) <;> (try clear fa))
   refine AW_ret ?_; refine zU ?_; refine ⟨_, .rfl', .inr rfl, ?_, [], 2, finOk_nil, ?_⟩ <;> (have fa := (And.intro p2 (And.intro hT hab)); first | exact zE0 | (refine zE ?_; try clear fa))
end Go.Proofs.YthblfhgofopcaaaGreat

namespace Go.Proofs.YthblfhgofopcaaaGreat
end Go.Proofs.YthblfhgofopcaaaGreat

namespace Go.Proofs.YthblfhgofopcaaaGreat
def hitB (c : List Gp) (last : Int) (i : Nat) : Bool := match c[i]? with
 | none => false
 | some g => ((tilesL g.wh g.kd).any fun y => y == last) && !(decide (0 < i) && decide (c[i - 1]? = some g))
def rdC (me : List Gp) (last fm : Int) (c : List Gp) : Nat → List Rg
 | 0 => []
 | i + 1 => rdC me last fm c i ++ if hitB c last i = true then [⟨fm, me ++ c, me.length + i⟩] else []
def rdF (me : List Gp) (last fm : Int) (cs : List (List Gp)) : List Rg := cs.flatMap fun c => rdC me last fm c c.length
def rdL (con : Fm → List (List Gp)) (me : List Gp) (last : Int) (fs : List Fm) : Nat → List Rg
 | 0 => []
 | k + 1 => rdL con me last fs k ++ match fs[k]? with
  | none => []
  | some f => rdF me last k (con f)
theorem rdF_take (me : List Gp) (last fm : Int) (cs : List (List Gp)) {n : Nat} (h : n < cs.length) : rdF me last fm (cs.take n) ++ rdC me last fm cs[n] cs[n].length = rdF me last fm (cs.take (n + 1)) := by
 unfold rdF; rw [List.take_succ_eq_append_getElem h, List.flatMap_append]; simp
theorem rdC_len (me : List Gp) (last fm : Int) (c : List Gp) : ∀ n, (rdC me last fm c n).length ≤ n
 | 0 => Nat.le_refl _
 | n + 1 => by
  have := rdC_len me last fm c n
  rw [rdC, List.length_append]; split <;> simp <;> omega
theorem rdF_len (me : List Gp) (last fm : Int) {m : Nat} : ∀ cs : List (List Gp), (∀ c ∈ cs, c.length ≤ m) → (rdF me last fm cs).length ≤ cs.length * m
 | [], _ => by simp [rdF]
 | c :: cs, h => by
  have h1 := rdF_len me last fm cs fun x hx => h x (by simp [hx])
  have h2 := rdC_len me last fm c c.length
  have h3 := h c (by simp)
  unfold rdF at h1 ⊢
  rw [List.flatMap_cons, List.length_append, List.length_cons, Nat.succ_mul]; omega
theorem rdL_len (con : Fm → List (List Gp)) (me : List Gp) (last : Int) {fs : List Fm} {a m : Nat} (h : ∀ f ∈ fs, (con f).length ≤ a ∧ ∀ c ∈ con f, c.length ≤ m) : ∀ n, (rdL con me last fs n).length ≤ n * (a * m)
 | 0 => by simp [rdL]
 | n + 1 => by
  have h1 := rdL_len con me last h n
  rw [rdL, List.length_append, Nat.succ_mul]
  cases hf : fs[n]? with
  | none => simp; omega
  | some f =>
   obtain ⟨hn, he⟩ := List.getElem?_eq_some_iff.1 hf
   have h2 := h f (he ▸ List.getElem_mem hn)
   have h3 := rdF_len me last n (con f) h2.2
   have h4 := Nat.mul_le_mul_right m h2.1
   simp only; omega
end Go.Proofs.YthblfhgofopcaaaGreat

namespace Go.Proofs.YthblfhgofopcaaaGreat
open Go.RowKit
set_option maxRecDepth 100000
set_option maxHeartbeats 2000000
def kndErr (K co : Int) (sev : Bool) : Option Int → Int → List Int → Int
 | _, _, [] => 0
 | none, _, k :: l => if k < 0 ∨ K ≤ k then 2 else kndErr K co sev (some k) 1 l
 | some q, m, k :: l => if k < 0 ∨ K ≤ k then 2 else if k < q ∨ (k = q ∧ sev = false) then 11 else if k = q then (if co < m + 1 then 8 else kndErr K co sev (some k) (m + 1) l) else kndErr K co sev (some k) 1 l
def prevO (ks : List Int) (k : Nat) : Option Int := if k = 0 then none else ks[k - 1]?
theorem prevO_succ (ks : List Int) {k : Nat} (h : k < ks.length) : prevO ks (k + 1) = some ks[k] := by simp [prevO, h]
theorem kinds_co (s : TSet) : kindsI s = 0 ∨ (1 ≤ s.co ∧ s.co ≤ 4 ∧ kindsI s ≤ 60) := by
 by_cases h : chkErr s = 0
 ·exact .inr ⟨(valid_of h).co.1, (valid_of h).co.2, by have := kinds_le h; omega⟩
 ·exact .inl (kinds_bad h)
theorem knd_step (K co : Int) (sev : Bool) {ks : List Int} {k : Nat} (m : Int) (h : k < ks.length) : kndErr K co sev (prevO ks k) m (ks.drop k) =
  if ks[k] < 0 ∨ K ≤ ks[k] then 2 else if 0 < k ∧ (ks[k] < ks[k - 1] ∨ (ks[k] = ks[k - 1] ∧ sev = false)) then 11
  else if 0 < k ∧ ks[k] = ks[k - 1] then (if co < m + 1 then 8 else kndErr K co sev (prevO ks (k + 1)) (m + 1) (ks.drop (k + 1))) else kndErr K co sev (prevO ks (k + 1)) 1 (ks.drop (k + 1)) := by
 rw [List.drop_eq_getElem_cons h, prevO_succ ks h]
 cases k with
 | zero => simp [prevO, kndErr]
 | succ j =>
  rw [prevO_succ ks (by omega)]
  simp [kndErr]
set_option maxHeartbeats 4000000 in
theorem says_checkKinds (s : TSet) (ks : List Int) (sev : Bool) (hl : ks.length ≤ 1000000) : ASays Tryz.prog 78 [eSet s, eInts false ks, B sev] (I (kndErr (kindsI s) s.co sev none 0 ks)) := by
 have hco := kinds_co s
 refine acall_of (nx := 0) (ne := 0) tysGood (DD_ok tysGood mixed _) Tryz.func78 (by rfl) (by rfl) (by simp [Tryz.ntmps78]) (fun p hp => by cases hp) ?_; rw [Tryz.ntmps78]; let tb := ord_78
 (repeat' (first | ((with_reducible refine AOps_one ?_); intro Jo hJo; (have fa := zT; refine zF ?_; (try clear fa)); (repeat (refine And.intro (by first | omega | trivial | assumption) ?_)); first | (refine hJo _ _ _ ?_; clear hJo Jo) | (refine hJo _ _ _ _ ?_; clear hJo Jo) | skip) | ((with_reducible refine AOps_end ?_); (try simp (decide := true) only [thenA, blockA, ↓reduceIte]); (try (first | (refine hK _ ?_; clear hK K) | (clear hK K; first | (refine hK _ ?_; clear hK K) | (clear hK K; first | (refine hK _ ?_; clear hK K) | (clear hK K; refine hK _ ?_; clear hK K)))))) | ((with_reducible apply AD_one); rfl; intro Jo hJo; (have fa := zT; refine zF ?_; (try clear fa)); (repeat (refine And.intro (by first | omega | trivial | assumption) ?_)); first | (refine hJo _ _ _ ?_; clear hJo Jo) | (refine hJo _ _ _ _ ?_; clear hJo Jo) | skip) | ((with_reducible refine AD_end ?_); (try (have fa := zT; refine zF ?_; (try clear fa))); (try (first | (refine hK _ ?_; clear hK K) | (clear hK K; first | (refine hK _ ?_; clear hK K) | (clear hK K; first | (refine hK _ ?_; clear hK K) | (clear hK K; refine hK _ ?_; clear hK K)))))) | ((with_reducible refine AW_seq ?_); intro K hK) | ((with_reducible refine AW_reg ?_)) | ((with_reducible apply AW_regD tb); rfl; kernel_rfl) | (with_reducible refine AW_block ?_) | ((with_reducible refine AW_exit ?_); (try simp (decide := true) only [thenA, blockA, ↓reduceIte]); (try (first | (refine hK _ ?_; clear hK K) | (clear hK K; first | (refine hK _ ?_; clear hK K) | (clear hK K; first | (refine hK _ ?_; clear hK K) | (clear hK K; refine hK _ ?_; clear hK K)))))) | ((with_reducible refine AW_skip ?_); (try simp (decide := true) only [thenA, blockA, ↓reduceIte]); (try (first | (refine hK _ ?_; clear hK K) | (clear hK K; first | (refine hK _ ?_; clear hK K) | (clear hK K; first | (refine hK _ ?_; clear hK K) | (clear hK K; refine hK _ ?_; clear hK K)))))) | ((with_reducible refine AW_condT ?_ ?_); exact rfl) | ((with_reducible refine AW_condF ?_ ?_); exact rfl) | (refine AW_isT rfl (by first | assumption | rfl | (simp only [Bool.and_eq_false_iff, Bool.or_eq_false_iff, decide_eq_true_eq, decide_eq_false_iff_not, beq_iff_eq, bne_iff_ne, beq_eq_false_iff_ne, bne_eq_false_iff_eq, ne_eq, Bool.not_eq_true', Bool.not_eq_false', gt_iff_lt, ge_iff_le, Int.not_lt, Int.not_le, Bool.and_eq_true, Bool.or_eq_true, Bool.not_eq_true, Bool.not_eq_false, not_and, not_or, Nat.not_lt, Nat.not_le, Classical.not_not, Decidable.not_not]; omega)) ?_) | (refine AW_isF rfl (by first | assumption | rfl | (simp only [Bool.and_eq_false_iff, Bool.or_eq_false_iff, decide_eq_true_eq, decide_eq_false_iff_not, beq_iff_eq, bne_iff_ne, beq_eq_false_iff_ne, bne_eq_false_iff_eq, ne_eq, Bool.not_eq_true', Bool.not_eq_false', gt_iff_lt, ge_iff_le, Int.not_lt, Int.not_le, Bool.and_eq_true, Bool.or_eq_true, Bool.not_eq_true, Bool.not_eq_false, not_and, not_or, Nat.not_lt, Nat.not_le, Classical.not_not, Decidable.not_not]; omega)) ?_) | ((refine AW_cond rfl ⟨fun hb => ?_, fun hb => ?_⟩) <;> (try simp only [Bool.and_eq_false_iff, Bool.or_eq_false_iff, decide_eq_true_eq, decide_eq_false_iff_not, beq_iff_eq, bne_iff_ne, beq_eq_false_iff_ne, bne_eq_false_iff_eq, ne_eq, Bool.not_eq_true', Bool.not_eq_false', gt_iff_lt, ge_iff_le, Int.not_lt, Int.not_le, Bool.and_eq_true, Bool.or_eq_true, Bool.not_eq_true, Bool.not_eq_false, not_and, not_or, Nat.not_lt, Nat.not_le, Classical.not_not, Decidable.not_not] at hb)) | ((first | refine stepG_isT (by first | assumption | rfl | (simp only [Bool.and_eq_false_iff, Bool.or_eq_false_iff, decide_eq_true_eq, decide_eq_false_iff_not, beq_iff_eq, bne_iff_ne, beq_eq_false_iff_ne, bne_eq_false_iff_eq, ne_eq, Bool.not_eq_true', Bool.not_eq_false', gt_iff_lt, ge_iff_le, Int.not_lt, Int.not_le, Bool.and_eq_true, Bool.or_eq_true, Bool.not_eq_true, Bool.not_eq_false, not_and, not_or, Nat.not_lt, Nat.not_le, Classical.not_not, Decidable.not_not]; omega)) ?_ | refine stepG_isF (by first | assumption | rfl | (simp only [Bool.and_eq_false_iff, Bool.or_eq_false_iff, decide_eq_true_eq, decide_eq_false_iff_not, beq_iff_eq, bne_iff_ne, beq_eq_false_iff_ne, bne_eq_false_iff_eq, ne_eq, Bool.not_eq_true', Bool.not_eq_false', gt_iff_lt, ge_iff_le, Int.not_lt, Int.not_le, Bool.and_eq_true, Bool.or_eq_true, Bool.not_eq_true, Bool.not_eq_false, not_and, not_or, Nat.not_lt, Nat.not_le, Classical.not_not, Decidable.not_not]; omega)) ?_ | (refine stepG_split (fun hb => ?_) (fun hb => ?_) <;> (try simp only [Bool.and_eq_false_iff, Bool.or_eq_false_iff, decide_eq_true_eq, decide_eq_false_iff_not, beq_iff_eq, bne_iff_ne, beq_eq_false_iff_ne, bne_eq_false_iff_eq, ne_eq, Bool.not_eq_true', Bool.not_eq_false', gt_iff_lt, ge_iff_le, Int.not_lt, Int.not_le, Bool.and_eq_true, Bool.or_eq_true, Bool.not_eq_true, Bool.not_eq_false, not_and, not_or, Nat.not_lt, Nat.not_le, Classical.not_not, Decidable.not_not] at hb))) <;> ((try (have fa := zT; refine zF ?_; (try clear fa))); (repeat (refine And.intro (by first | omega | trivial | assumption) ?_)); first | (refine hJo _ _ _ ?_; clear hJo Jo) | (refine hJo _ _ _ _ ?_; clear hJo Jo) | skip))))
 refine AW_forS2 ks.length (fun k σ => ∃ m : Nat, m ≤ k ∧ kndErr (kindsI s) s.co sev none 0 ks = kndErr (kindsI s) s.co sev (prevO ks k) m (ks.drop k) ∧ σ = ⟨300, [(1, eInts false ks), (2, B sev), (3, .ref 0 0 0 0), (7, I m), (11, eInts false ks), (12, I ks.length), (13, I k)], [(0, .arr 0 9 [eSet s])]⟩) .rfl' [(0, 0)] [(0, 0)] 0 [1, 2, 3, 7, 11, 12, 13] 300 (finOk0 (by decide) (by decide)) (finOk0 (by decide) (by decide)) ⟨0, Nat.le_refl _, rfl, by (have fa := zT; exact zV)⟩ ?_
 rintro k σ' hk ⟨m, hm, hR, rfl⟩ J hJ
 have hS := @knd_step (kindsI s) s.co sev ks k m
 (repeat' (first | ((with_reducible refine AOps_one ?_); intro Jo hJo; (have fa := zT; refine zF ?_; (try clear fa)); (repeat (refine And.intro (by first | omega | trivial | assumption) ?_)); first | (refine hJo _ _ _ ?_; clear hJo Jo) | (refine hJo _ _ _ _ ?_; clear hJo Jo) | skip) | ((with_reducible refine AOps_end ?_); (try simp (decide := true) only [thenA, blockA, ↓reduceIte]); (try (first | (refine hK _ ?_; clear hK K) | (clear hK K; first | (refine hK _ ?_; clear hK K) | (clear hK K; first | (refine hK _ ?_; clear hK K) | (clear hK K; refine hK _ ?_; clear hK K)))))) | ((first | (refine CallW.says (says_Kinds s) (by first | ((have fa := zT; first | exact zE0 | (refine zE ?_; try clear fa)); done) | rfl | ((have fa := zT; first | exact zE0 | (refine zE ?_; try clear fa)); rfl) | trivial) (by first | (apply Or.inl; first | rfl | ((have fa := zT; first | exact zE0 | (refine zE ?_; try clear fa)); done)) | (apply Or.inr; first | rfl | ((have fa := zT; first | exact zE0 | (refine zE ?_; try clear fa)); done))) (by intro q; first | rfl | ((have fa := zT; first | exact zE0 | (refine zE ?_; try clear fa)); done)) ?_) | (refine CallD.says (says_Kinds s) (by first | ((have fa := zT; first | exact zE0 | (refine zE ?_; try clear fa)); done) | rfl | ((have fa := zT; first | exact zE0 | (refine zE ?_; try clear fa)); rfl) | trivial) (by first | ((have fa := zT; first | exact zE0 | (refine zE ?_; try clear fa)); done) | rfl | ((have fa := zT; first | exact zE0 | (refine zE ?_; try clear fa)); rfl) | trivial) (by first | (apply Or.inl; first | rfl | ((have fa := zT; first | exact zE0 | (refine zE ?_; try clear fa)); done)) | (apply Or.inr; first | rfl | ((have fa := zT; first | exact zE0 | (refine zE ?_; try clear fa)); done))) (by intro q; first | rfl | ((have fa := zT; first | exact zE0 | (refine zE ?_; try clear fa)); done)) ?_)); (try (have fa := zT; refine zF ?_; (try clear fa))); (repeat (refine And.intro (by first | omega | trivial | assumption) ?_)); first | (refine hJo _ _ _ ?_; clear hJo Jo) | (refine hJo _ _ _ _ ?_; clear hJo Jo) | skip) | ((with_reducible apply AD_one); rfl; intro Jo hJo; (have fa := zT; refine zF ?_; (try clear fa)); (repeat (refine And.intro (by first | omega | trivial | assumption) ?_)); first | (refine hJo _ _ _ ?_; clear hJo Jo) | (refine hJo _ _ _ _ ?_; clear hJo Jo) | skip) | ((with_reducible refine AD_end ?_); (try (have fa := zT; refine zF ?_; (try clear fa))); (try (first | (refine hK _ ?_; clear hK K) | (clear hK K; first | (refine hK _ ?_; clear hK K) | (clear hK K; first | (refine hK _ ?_; clear hK K) | (clear hK K; refine hK _ ?_; clear hK K)))))) | ((with_reducible refine AW_seq ?_); intro K hK) | ((with_reducible refine AW_reg ?_)) | ((with_reducible apply AW_regD tb); rfl; kernel_rfl) | (with_reducible refine AW_block ?_) | ((with_reducible refine AW_exit ?_); (try simp (decide := true) only [thenA, blockA, ↓reduceIte]); (try (first | (refine hK _ ?_; clear hK K) | (clear hK K; first | (refine hK _ ?_; clear hK K) | (clear hK K; first | (refine hK _ ?_; clear hK K) | (clear hK K; refine hK _ ?_; clear hK K)))))) | ((with_reducible refine AW_skip ?_); (try simp (decide := true) only [thenA, blockA, ↓reduceIte]); (try (first | (refine hK _ ?_; clear hK K) | (clear hK K; first | (refine hK _ ?_; clear hK K) | (clear hK K; first | (refine hK _ ?_; clear hK K) | (clear hK K; refine hK _ ?_; clear hK K)))))) | ((with_reducible refine AW_condT ?_ ?_); exact rfl) | ((with_reducible refine AW_condF ?_ ?_); exact rfl) | (refine AW_isT rfl (by first | assumption | rfl | (simp only [Bool.and_eq_false_iff, Bool.or_eq_false_iff, decide_eq_true_eq, decide_eq_false_iff_not, beq_iff_eq, bne_iff_ne, beq_eq_false_iff_ne, bne_eq_false_iff_eq, ne_eq, Bool.not_eq_true', Bool.not_eq_false', gt_iff_lt, ge_iff_le, Int.not_lt, Int.not_le, Bool.and_eq_true, Bool.or_eq_true, Bool.not_eq_true, Bool.not_eq_false, not_and, not_or, Nat.not_lt, Nat.not_le, Classical.not_not, Decidable.not_not]; omega)) ?_) | (refine AW_isF rfl (by first | assumption | rfl | (simp only [Bool.and_eq_false_iff, Bool.or_eq_false_iff, decide_eq_true_eq, decide_eq_false_iff_not, beq_iff_eq, bne_iff_ne, beq_eq_false_iff_ne, bne_eq_false_iff_eq, ne_eq, Bool.not_eq_true', Bool.not_eq_false', gt_iff_lt, ge_iff_le, Int.not_lt, Int.not_le, Bool.and_eq_true, Bool.or_eq_true, Bool.not_eq_true, Bool.not_eq_false, not_and, not_or, Nat.not_lt, Nat.not_le, Classical.not_not, Decidable.not_not]; omega)) ?_) | ((refine AW_cond rfl ⟨fun hb => ?_, fun hb => ?_⟩) <;> (try simp only [Bool.and_eq_false_iff, Bool.or_eq_false_iff, decide_eq_true_eq, decide_eq_false_iff_not, beq_iff_eq, bne_iff_ne, beq_eq_false_iff_ne, bne_eq_false_iff_eq, ne_eq, Bool.not_eq_true', Bool.not_eq_false', gt_iff_lt, ge_iff_le, Int.not_lt, Int.not_le, Bool.and_eq_true, Bool.or_eq_true, Bool.not_eq_true, Bool.not_eq_false, not_and, not_or, Nat.not_lt, Nat.not_le, Classical.not_not, Decidable.not_not] at hb)) | ((first | refine stepG_isT (by first | assumption | rfl | (simp only [Bool.and_eq_false_iff, Bool.or_eq_false_iff, decide_eq_true_eq, decide_eq_false_iff_not, beq_iff_eq, bne_iff_ne, beq_eq_false_iff_ne, bne_eq_false_iff_eq, ne_eq, Bool.not_eq_true', Bool.not_eq_false', gt_iff_lt, ge_iff_le, Int.not_lt, Int.not_le, Bool.and_eq_true, Bool.or_eq_true, Bool.not_eq_true, Bool.not_eq_false, not_and, not_or, Nat.not_lt, Nat.not_le, Classical.not_not, Decidable.not_not]; omega)) ?_ | refine stepG_isF (by first | assumption | rfl | (simp only [Bool.and_eq_false_iff, Bool.or_eq_false_iff, decide_eq_true_eq, decide_eq_false_iff_not, beq_iff_eq, bne_iff_ne, beq_eq_false_iff_ne, bne_eq_false_iff_eq, ne_eq, Bool.not_eq_true', Bool.not_eq_false', gt_iff_lt, ge_iff_le, Int.not_lt, Int.not_le, Bool.and_eq_true, Bool.or_eq_true, Bool.not_eq_true, Bool.not_eq_false, not_and, not_or, Nat.not_lt, Nat.not_le, Classical.not_not, Decidable.not_not]; omega)) ?_ | (refine stepG_split (fun hb => ?_) (fun hb => ?_) <;> (try simp only [Bool.and_eq_false_iff, Bool.or_eq_false_iff, decide_eq_true_eq, decide_eq_false_iff_not, beq_iff_eq, bne_iff_ne, beq_eq_false_iff_ne, bne_eq_false_iff_eq, ne_eq, Bool.not_eq_true', Bool.not_eq_false', gt_iff_lt, ge_iff_le, Int.not_lt, Int.not_le, Bool.and_eq_true, Bool.or_eq_true, Bool.not_eq_true, Bool.not_eq_false, not_and, not_or, Nat.not_lt, Nat.not_le, Classical.not_not, Decidable.not_not] at hb))) <;> ((try (have fa := zT; refine zF ?_; (try clear fa))); (repeat (refine And.intro (by first | omega | trivial | assumption) ?_)); first | (refine hJo _ _ _ ?_; clear hJo Jo) | (refine hJo _ _ _ _ ?_; clear hJo Jo) | skip))))
 all_goals first
  | (refine hJ _ (by omega) ⟨m + 1, by omega, ?_, by (have fa := zT; exact zV)⟩; rw [hR, hS (by omega)]; ((repeat' split) <;> first | rfl | (exfalso; omega) | (simp_all; done) | (simp_all; omega)))
  | (refine hJ _ (by omega) ⟨1, by omega, ?_, by (have fa := zT; exact zV)⟩; rw [hR, hS (by omega)]; ((repeat' split) <;> first | rfl | (exfalso; omega) | (simp_all; done) | (simp_all; omega)))
  | (refine AW_ret ?_; refine ⟨.inr rfl, ?_, [], 2, finOk_nil, ?_⟩ <;> (have fa := zT; first | exact zE0 | (refine zE ?_; try clear fa)); rw [hR, hS (by omega)]; ((repeat' split) <;> first | rfl | (exfalso; omega) | (simp_all; done) | (simp_all; omega)))
  | (refine AW_ret ?_; refine ⟨.inr rfl, ?_, [], 2, finOk_nil, ?_⟩ <;> (have fa := zT; first | exact zE0 | (refine zE ?_; try clear fa)); obtain rfl : k = ks.length := by omega
     rw [hR, List.drop_length]; unfold kndErr; cases prevO ks ks.length <;> rfl)
  | skip
end Go.Proofs.YthblfhgofopcaaaGreat
