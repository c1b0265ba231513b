/-
  Parts of the proof: Read3.
-/
import Derived.Test.YthblfhgofopcaaaGreatHA17
import Derived.Test.YthblfhgofopcaaaGreatHA36
set_option linter.all false
namespace Go.Proofs.YthblfhgofopcaaaGreat
open Go.RowKit
set_option maxRecDepth 100000
set_option maxHeartbeats 2000000
theorem rdF00 (me : List Gp) (last fm : Int) : rdF me last fm [] = [] := rfl
theorem rdC0 (me : List Gp) (last fm : Int) (c : List Gp) (n : Nat) : rdC me last fm c (n - n) = [] := by rw [Nat.sub_self]; rfl
theorem says_clone_gps (l : List Gp) (h0 : 0 < l.length) (h1 : l.length ≤ 1000000) : ASays Tryz.prog 91 [eGps false l] (eGps true l) := by
 have he : (l.map eGp ≠ []) = True := by
  have : l ≠ [] := List.length_pos_iff.1 h0
  simp [this]
 have hT : l.take l.length = l := List.take_length
 refine acall_ofW (nx := 0) (ne := 0) tysGood (DD_ok tysGood mixed _) Tryz.func91 (by rfl) (by rfl) (by simp [Tryz.ntmps91]) (fun p hp => by cases hp) ?_; rw [Tryz.ntmps91]; let tb := ord_91; let lv := live_91
 (have fa := (And.intro he hT); (repeat' first | refine zQ ?_ | (refine zN ?_; intro K hC hK) | ((repeat clear hJo hJU hJC Jo JU JC); (repeat (fail_if_success (refine hK _ ?_)); clear hK hC K); refine hK _ ?_; clear hK hC K) | (refine zC ?_ ?_ <;> intro hb) | (refine zK ?_; intro Jo JU JC hJo hJU hJC)) <;> (try clear fa))
 all_goals first
  | (refine AW_ret ?_; refine zU ?_; refine ⟨_, .rfl', .inr rfl, ?_, [], 2, finOk_nil, ?_⟩ <;> (have fa := hT; first | exact zE0 | (refine zE ?_; try clear fa)); done)
  | trace_state
def askR (s : TSet) (h : Hd) (l : List Fm) (last : Int) : Bool := fairB s l h && fullB s h && decide (0 ≤ last) && decide (last < (h.bag.length : Int)) && decide (h.bag.getD last.toNat 0 ≠ 0)
def readM (s : TSet) (h : Hd) (A : Fm → List (List Gp)) (l : List Fm) (last : Int) : List Rg := if askR s h l last = true then rdL A h.me last l l.length else []
structure AOk (s : TSet) (c : List (List Gp)) : Prop where
 ln : c.length ≤ 100000
 w : ∀ x ∈ c, 0 < x.length ∧ x.length ≤ 100 ∧ ∀ g ∈ x, grpErr s g.wh g.kd = 0
set_option maxHeartbeats 8000000 in
theorem says_Readings (s : TSet) (h : Hd) (A : Fm → List (List Gp)) (l : List Fm) (last : Int) (hf : ∀ f ∈ l, f.ks.length ≤ 1000000) (hl : l.length ≤ 1000000) (hs : s.su.length ≤ 1000000) (h1 : h.me.length ≤ 1000000) (h2 : h.bag.length ≤ 1000000)
  (hA : fairB s l h = true → fullB s h = true → ∀ f ∈ l, AOk s (A f) ∧ ASays Tryz.prog 88 [eSet s, eFm false f, eHd false h] (eLL false (A f))) : ASays Tryz.prog 28 [eSet s, eFms false l, eHd false h, I last] (eRgs false (readM s h A l last)) := by
 have CF := says_fair s l h hf hl hs h1 h2
 have CU := says_Full s h h1 h2
 by_cases ha : askR s h l last = true
 ·have hU : readM s h A l last = rdL A h.me last l l.length := by unfold readM; rw [if_pos ha]
  unfold askR at ha
  simp only [Bool.and_eq_true, decide_eq_true_eq] at ha
  obtain ⟨⟨⟨⟨c1, c2⟩, c3⟩, c4⟩, c5⟩ := ha
  rw [c1] at CF
  rw [c2] at CU
  replace hA := hA c1 c2
  have ho := hand_ok (s := s) (x := h) (by unfold fairB at c1; simp at c1; exact c1.2)
  have hmm := ho.mm
  have hme := (valid_of ho.va).me
  have hv := ho.va
  have hll : l.length ≤ 8 := by
   have hfo : formsErr s l = 0 := by unfold fairB at c1; simp at c1; exact c1.1
   unfold formsErr at hfo
   rw [if_neg (by simp [ho.va])] at hfo
   split at hfo
   ·cases hfo
   ·split at hfo
    ·cases hfo
    ·omega
  clear ho c1 c2
  rw [hU]
  obtain ⟨bag, me⟩ := h
  dsimp only at *
  have hbl : bag.getD last.toNat 0 = bag[last.toNat]'(by omega) := by rw [List.getD_eq_getElem?_getD, List.getElem?_eq_getElem (by omega)]; rfl
  have hb0 : ¬ bag[last.toNat]'(by omega) = 0 := by rw [← hbl]; exact c5
  refine asays_low ?_
  refine acall_ofW (nx := 0) (ne := 0) tysGood (DD_ok tysGood mixed _) Tryz.func28 (by rfl) (by rfl) (by simp [Tryz.ntmps28]) (fun p hp => by cases hp) ?_; rw [Tryz.ntmps28]; let tb := ord_28; let lv := live_28
  (have fa := zT; (repeat' first | refine zS (CF) ?_ | refine zS (CU) ?_ | refine zQ ?_ | (refine zN ?_; intro K hC hK) | ((repeat clear hJo hJU hJC Jo JU JC); (repeat (fail_if_success (refine hK _ ?_)); clear hK hC K); refine hK _ ?_; clear hK hC K) | (refine zC ?_ ?_ <;> intro hb) | (refine zK ?_; intro Jo JU JC hJo hJU hJC)) <;> (try clear fa))
  refine AW_loopGV (wk_virtT 9 500 0 3 (by rfl) (by rfl)) (α := Nat × Nat) (fun a => [(3, I last), (4, .ref 0 0 0 0), (6, .ref 1 0 0 0), (9, .rsl 2 a.2 0 (rdL A me last l a.1).length), (47, eFms false l), (48, I l.length), (49, I a.1)]) (fun a => [(0, .arr 0 9 [eSet s]), (1, .arr 0 2 [eHd false ⟨bag, me⟩]), (2, .arr a.2 3 ((rdL A me last l a.1).map (eRg true)))])
   (fun a => l.length - a.1) (fun a => a.1 ≤ l.length) [(0, 0), (16, 1), (500, 2)] [(0, 0), (1, 1), (2, 2)] 0 [3, 4, 6, 9, 47, 48, 49] 900 (finOk0 (by decide) (by decide)) (finOk0 (by decide) (by decide)) (0, 0) (Nat.zero_le _) (by (have fa := (And.intro @virtT.eq_1 (And.intro (And.intro @upd.eq_1 @upd.eq_2) (And.intro @rdL.eq_1 @rdL.eq_2))); exact zSF)) ?_
  rintro ⟨i, g0⟩ hi J hcJ hJ
  dsimp only at hi hJ ⊢
  have hrl := rdL_len A me last (fs := l) (a := 100000) (m := 100) (fun f hf => ⟨(hA f hf).1.ln, fun c hc => ((hA f hf).1.w c hc).2.1⟩) i
  have hrl2 : (rdL A me last l i).length ≤ 80000000 := Nat.le_trans hrl (by have := Nat.mul_le_mul_right (100000 * 100) (show i ≤ 8 by omega); omega)
  clear hrl
  by_cases hlt : i < l.length
  ·obtain ⟨f, hfi⟩ : ∃ f, l[i] = f := ⟨_, rfl⟩
   have hfm : f ∈ l := by rw [← hfi]; exact List.getElem_mem hlt
   obtain ⟨hok, CA⟩ := hA f hfm
   have hstep : rdL A me last l (i + 1) = rdL A me last l i ++ rdF me last i (A f) := by rw [rdL, List.getElem?_eq_getElem hlt, hfi]
   obtain ⟨cs, hcs⟩ : ∃ cs, A f = cs := ⟨_, rfl⟩
   rw [hcs] at hok CA hstep
   obtain ⟨R, hR⟩ : ∃ R, rdL A me last l i = R := ⟨_, rfl⟩
   rw [hR] at hrl2 hstep ⊢
   have hcl := hok.ln
   (have fa := hfi; (repeat' first | refine zS (CA) ?_ | refine zQ ?_ | (refine zN ?_; intro K hC hK) | ((repeat clear hJo hJU hJC Jo JU JC); (repeat (fail_if_success (refine hK _ ?_)); clear hK hC K); refine hK _ ?_; clear hK hC K) | (refine zC ?_ ?_ <;> intro hb) | (refine zK ?_; intro Jo JU JC hJo hJU hJC)) <;> (try clear fa))
   refine AW_loopG (α := Nat × Nat) (fun a => [(3, I last), (4, .ref 0 0 0 0), (6, .ref 1 0 0 0), (9, .rsl 2 a.2 0 (R ++ rdF me last i (cs.take a.1)).length), (10, I i), (47, eFms false l), (48, I l.length), (49, I i), (57, eLL false cs), (58, I cs.length), (59, I a.1)]) (fun a => [(0, .arr 0 9 [eSet s]), (1, .arr 0 2 [eHd false ⟨bag, me⟩]), (2, .arr a.2 3 ((R ++ rdF me last i (cs.take a.1)).map (eRg true)))])
    (fun a => cs.length - a.1) (fun a => a.1 ≤ cs.length) [(0, 0), (1, 1), (2, 2)] [(0, 0), (1, 1), (2, 2)] 0 [3, 4, 6, 9, 10, 47, 48, 49, 57, 58, 59] 1900 (finOk0 (by decide) (by decide)) (finOk0 (by decide) (by decide)) (0, g0) (Nat.zero_le _) (by (have fa := (And.intro @rdF00 @List.append_nil.{0}); exact zSE)) ?_
   rintro ⟨n, g1⟩ hn J2 hcJ2 hJ2
   dsimp only at hn hJ2 ⊢
   have hfl := rdF_len me last (i : Int) (m := 100) (cs.take n) fun x hx => (hok.w x (List.mem_of_mem_take hx)).2.1
   have hfl2 : (rdF me last i (cs.take n)).length ≤ 10000000 := Nat.le_trans hfl (by rw [List.length_take]; have := Nat.mul_le_mul_right 100 (show min n cs.length ≤ 100000 by omega); omega)
   clear hfl
   by_cases hnl : n < cs.length
   ·obtain ⟨c, hc⟩ : ∃ c, cs[n] = c := ⟨_, rfl⟩
    obtain ⟨w1, w2, w3⟩ := hok.w c (by rw [← hc]; exact List.getElem_mem hnl)
    have hst2 := rdF_take me last (i : Int) cs hnl
    rw [hc] at hst2
    obtain ⟨R2, hR2⟩ : ∃ R2, R ++ rdF me last i (cs.take n) = R2 := ⟨_, rfl⟩
    have hst3 : R ++ rdF me last i (cs.take (n + 1)) = R2 ++ rdC me last i c c.length := by rw [← hR2, ← hst2, List.append_assoc]
    have hR2l : R2.length ≤ 90000000 := by rw [← hR2, List.length_append]; omega
    have CC := says_Concat me c (by omega) (by omega)
    have hab : (me ++ c).length = me.length + c.length := by simp
    have CL := says_clone_gps (me ++ c) (by omega) (by omega)
    rw [hR2]
    clear hst2
    (have fa := hc; (repeat' first | refine zS (CC) ?_ | refine zQ ?_ | (refine zN ?_; intro K hC hK) | ((repeat clear hJo hJU hJC Jo JU JC); (repeat (fail_if_success (refine hK _ ?_)); clear hK hC K); refine hK _ ?_; clear hK hC K) | (refine zC ?_ ?_ <;> intro hb) | (refine zK ?_; intro Jo JU JC hJo hJU hJC)) <;> (try clear fa))
    have hG1 : ∀ t (ht : t < c.length), (me ++ c)[me.length + t]'(by omega) = c[t] := fun t ht => by
     rw [List.getElem_append_right (by omega)]; simp
    obtain ⟨G, hG⟩ : ∃ G, me ++ c = G := ⟨_, rfl⟩
    rw [hG] at CL hab ⊢
    simp only [hG] at hG1
    clear CC
    refine AW_loopG (α := Nat × Nat) (fun a => [(3, I last), (4, .ref 0 0 0 0), (6, .ref 1 0 0 0), (9, .rsl 2 a.2 0 (R2 ++ rdC me last i c (a.1 - me.length)).length), (10, I i), (14, eGps true G), (15, I a.1), (47, eFms false l), (48, I l.length), (49, I i), (57, eLL false cs), (58, I cs.length), (59, I n)]) (fun a => [(0, .arr 0 9 [eSet s]), (1, .arr 0 2 [eHd false ⟨bag, me⟩]), (2, .arr a.2 3 ((R2 ++ rdC me last i c (a.1 - me.length)).map (eRg true)))])
     (fun a => G.length - a.1) (fun a => me.length ≤ a.1 ∧ a.1 ≤ G.length) [(0, 0), (1, 1), (2, 2)] [(0, 0), (1, 1), (2, 2)] 0 [3, 4, 6, 9, 10, 14, 15, 47, 48, 49, 57, 58, 59] 2900 (finOk0 (by decide) (by decide)) (finOk0 (by decide) (by decide)) (me.length, g1) ⟨Nat.le_refl _, by omega⟩ (by (have fa := (And.intro @rdC0 @List.append_nil.{0}); exact zSE)) ?_
    rintro ⟨at_, g2⟩ ⟨t1, t2⟩ J3 hcJ3 hJ3
    dsimp only at t1 t2 hJ3 ⊢
    have hrc := rdC_len me last (i : Int) c (at_ - me.length)
    by_cases hal : at_ < G.length
    ·obtain ⟨t, ht⟩ : ∃ t, at_ = me.length + t := ⟨at_ - me.length, by omega⟩
     have htl : t < c.length := by omega
     obtain ⟨g, hg⟩ : ∃ g, c[t] = g := ⟨_, rfl⟩
     have hgr := w3 g (by rw [← hg]; exact List.getElem_mem htl)
     have e1 : G[at_] = g := by subst ht; rw [hG1 t htl, hg]
     have CT := says_Tiles s g
     rw [show tilesI s g.wh g.kd = tilesL g.wh g.kd by unfold tilesI; rw [if_pos ⟨hv, hgr⟩]] at CT
     have CN := says_Contains (tilesL g.wh g.kd) last (by have := tilesL_len g.wh g.kd; omega)
     have hsu : at_ + 1 - me.length = (at_ - me.length) + 1 := by omega
     have hst4 : rdC me last i c (at_ + 1 - me.length) = rdC me last i c (at_ - me.length) ++ if hitB c last t = true then [⟨i, G, at_⟩] else [] := by
      rw [hsu, show at_ - me.length = t by omega, rdC, hG, ht]; simp
     have hhit : hitB c last t = (((tilesL g.wh g.kd).any fun y => last == y) && !(decide (0 < t) && decide (c[t - 1]? = some g))) := by
      unfold hitB
      rw [List.getElem?_eq_getElem htl, hg]
      simp only
      congr 2
      funext y
      exact Bool.beq_comm
     obtain ⟨b, hb⟩ : ∃ b, ((tilesL g.wh g.kd).any fun y => last == y) = b := ⟨_, rfl⟩
     rw [hb] at CN hhit
     obtain ⟨R3, hR3⟩ : ∃ R3, rdC me last i c (at_ - me.length) = R3 := ⟨_, rfl⟩
     rw [hR3] at hst4 hrc ⊢
     have hTR : (R2 ++ R3).take (R2.length + R3.length) = R2 ++ R3 := List.take_of_length_le (by simp)
     have hx : AV.agg [I i, eGps true G, I at_] = eRg true ⟨i, G, at_⟩ := rfl
     by_cases ht0 : t = 0
     ·have ham : at_ = me.length := by omega
      have hh2 : hitB c last t = b := by rw [hhit, ht0]; simp
      rw [hh2] at hst4
      cases b with
      | true =>
       rw [if_pos rfl] at hst4
       (have fa := (And.intro e1 hTR); (repeat' first | refine zS (CT) ?_ | refine zS (CN) ?_ | refine zS (CL) ?_ | refine zQ ?_ | (refine zN ?_; intro K hC hK) | ((repeat clear hJo hJU hJC Jo JU JC); (repeat (fail_if_success (refine hK _ ?_)); clear hK hC K); refine hK _ ?_; clear hK hC K) | (refine zC ?_ ?_ <;> intro hb) | (refine zK ?_; intro Jo JU JC hJo hJU hJC)) <;> (try clear fa))
       refine hJ3 _ (at_ + 1, g2 + 1) (by dsimp only; omega) ⟨by dsimp only; omega, by dsimp only; omega⟩ (by (have fa := (And.intro hst4 (And.intro (fun x y z => (@List.append_assoc.{0} Rg x y z).symm) (And.intro @List.length_append.{0} (And.intro hx hTR)))); exact zSE))
      | false =>
       rw [if_neg (by simp), List.append_nil] at hst4
       (have fa := e1; (repeat' first | refine zS (CT) ?_ | refine zS (CN) ?_ | refine zQ ?_ | (refine zN ?_; intro K hC hK) | ((repeat clear hJo hJU hJC Jo JU JC); (repeat (fail_if_success (refine hK _ ?_)); clear hK hC K); refine hK _ ?_; clear hK hC K) | (refine zC ?_ ?_ <;> intro hb) | (refine zK ?_; intro Jo JU JC hJo hJU hJC)) <;> (try clear fa))
       refine hJ3 _ (at_ + 1, g2) (by dsimp only; omega) ⟨by dsimp only; omega, by dsimp only; omega⟩ (by (have fa := hst4; exact zSE))
     ·have e2 : G[at_ - 1]'(by omega) = c[t - 1]'(by omega) := by
       have := hG1 (t - 1) (by omega)
       simp only [show at_ - 1 = me.length + (t - 1) by omega]; exact this
      obtain ⟨g', hg'⟩ : ∃ g', c[t - 1]'(by omega) = g' := ⟨_, rfl⟩
      rw [hg'] at e2
      have e3 : ((at_ : Int) - 1).toNat = at_ - 1 := by omega
      have hh2 : hitB c last t = (b && !decide (g = g')) := by
       rw [hhit, decide_eq_true (show 0 < t by omega), List.getElem?_eq_getElem (show t - 1 < c.length by omega), hg']
       congr 2
       simp [eq_comm]
      rw [hh2] at hst4
      have hgA : eGp g = .agg [.v (.int .i64 g.wh), .v (.int .i64 g.kd), .v (.bool g.op)] := rfl
      have hgB : eGp g' = .agg [.v (.int .i64 g'.wh), .v (.int .i64 g'.kd), .v (.bool g'.op)] := rfl
      have hb3 := gp_beq g g'
      by_cases hgg : g = g'
      ·rw [decide_eq_true hgg] at hb3 hst4
       rw [Bool.not_true, Bool.and_false, if_neg (by simp), List.append_nil] at hst4
       (have fa := (And.intro e1 (And.intro e2 (And.intro e3 (And.intro hTR (And.intro hgA (And.intro hgB hb3)))))); (repeat' first | refine zS (CT) ?_ | refine zS (CN) ?_ | refine zS (CL) ?_ | refine zQ ?_ | (refine zN ?_; intro K hC hK) | ((repeat clear hJo hJU hJC Jo JU JC); (repeat (fail_if_success (refine hK _ ?_)); clear hK hC K); refine hK _ ?_; clear hK hC K) | (refine zC ?_ ?_ <;> intro hb) | (refine zK ?_; intro Jo JU JC hJo hJU hJC)) <;> (try clear fa))
       refine hJ3 _ (at_ + 1, g2) (by dsimp only; omega) ⟨by dsimp only; omega, by dsimp only; omega⟩ (by (have fa := hst4; exact zSE))
      ·rw [decide_eq_false hgg] at hb3 hst4
       rw [Bool.not_false, Bool.and_true] at hst4
       cases b with
       | true =>
        rw [if_pos rfl] at hst4
        (have fa := (And.intro e1 (And.intro e2 (And.intro e3 (And.intro hTR (And.intro hgA (And.intro hgB hb3)))))); (repeat' first | refine zS (CT) ?_ | refine zS (CN) ?_ | refine zS (CL) ?_ | refine zQ ?_ | (refine zN ?_; intro K hC hK) | ((repeat clear hJo hJU hJC Jo JU JC); (repeat (fail_if_success (refine hK _ ?_)); clear hK hC K); refine hK _ ?_; clear hK hC K) | (refine zC ?_ ?_ <;> intro hb) | (refine zK ?_; intro Jo JU JC hJo hJU hJC)) <;> (try clear fa))
        refine hJ3 _ (at_ + 1, g2 + 1) (by dsimp only; omega) ⟨by dsimp only; omega, by dsimp only; omega⟩ (by (have fa := (And.intro hst4 (And.intro (fun x y z => (@List.append_assoc.{0} Rg x y z).symm) (And.intro @List.length_append.{0} (And.intro hx hTR)))); exact zSE))
       | false =>
        rw [if_neg (by simp), List.append_nil] at hst4
        (have fa := (And.intro e1 (And.intro e2 (And.intro e3 (And.intro hgA (And.intro hgB hb3))))); (repeat' first | refine zS (CT) ?_ | refine zS (CN) ?_ | refine zQ ?_ | (refine zN ?_; intro K hC hK) | ((repeat clear hJo hJU hJC Jo JU JC); (repeat (fail_if_success (refine hK _ ?_)); clear hK hC K); refine hK _ ?_; clear hK hC K) | (refine zC ?_ ?_ <;> intro hb) | (refine zK ?_; intro Jo JU JC hJo hJU hJC)) <;> (try clear fa))
        refine hJ3 _ (at_ + 1, g2) (by dsimp only; omega) ⟨by dsimp only; omega, by dsimp only; omega⟩ (by (have fa := hst4; exact zSE))
    ·have hal2 : at_ = G.length := by omega
     have hal3 : at_ - me.length = c.length := by omega
     rw [hal3, ← hst3]
     (have fa := zT; (repeat' first | refine zQ ?_ | (refine zN ?_; intro K hC hK) | ((repeat clear hJo hJU hJC Jo JU JC); (repeat (fail_if_success (refine hK _ ?_)); clear hK hC K); refine hK _ ?_; clear hK hC K) | (refine zC ?_ ?_ <;> intro hb) | (refine zK ?_; intro Jo JU JC hJo hJU hJC)) <;> (try clear fa))
     refine hJ2 _ (n + 1, g2) (by dsimp only; omega) (by dsimp only; omega) (by (have fa := zT; exact zSE))
   ·(have fa := zT; (repeat' first | refine zQ ?_ | (refine zN ?_; intro K hC hK) | ((repeat clear hJo hJU hJC Jo JU JC); (repeat (fail_if_success (refine hK _ ?_)); clear hK hC K); refine hK _ ?_; clear hK hC K) | (refine zC ?_ ?_ <;> intro hb) | (refine zK ?_; intro Jo JU JC hJo hJU hJC)) <;> (try clear fa))
    obtain rfl : n = cs.length := by omega
    rw [List.take_length, ← hstep]
    refine hJ _ (i + 1, g1) (by dsimp only; omega) (by dsimp only; omega) (by (have fa := zT; exact zSF))
  ·obtain rfl : i = l.length := by omega
   (have fa := zT; (repeat' first | refine zQ ?_ | (refine zN ?_; intro K hC hK) | ((repeat clear hJo hJU hJC Jo JU JC); (repeat (fail_if_success (refine hK _ ?_)); clear hK hC K); refine hK _ ?_; clear hK hC K) | (refine zC ?_ ?_ <;> intro hb) | (refine zK ?_; intro Jo JU JC hJo hJU hJC)) <;> (try clear fa))
   refine AW_ret ?_; refine zU ?_; refine ⟨_, .rfl', .inr rfl, ?_, [], 2, finOk_nil, ?_⟩ <;> (have fa := zT; first | exact zE0 | (refine zE ?_; try clear fa))
 ·have hU : readM s h A l last = [] := by unfold readM; rw [if_neg ha]
  rw [hU]
  clear hA
  unfold askR at ha
  refine asays_le ?_
  cases c1 : fairB s l h with
  | false =>
   rw [c1] at CF
   refine acall_ofW (nx := 0) (ne := 0) tysGood (DD_ok tysGood mixed _) Tryz.func28 (by rfl) (by rfl) (by simp [Tryz.ntmps28]) (fun p hp => by cases hp) ?_; rw [Tryz.ntmps28]; let tb := ord_28; let lv := live_28
   (have fa := zT; (repeat' first | refine zS (CF) ?_ | refine zQ ?_ | (refine zN ?_; intro K hC hK) | ((repeat clear hJo hJU hJC Jo JU JC); (repeat (fail_if_success (refine hK _ ?_)); clear hK hC K); refine hK _ ?_; clear hK hC K) | (refine zC ?_ ?_ <;> intro hb) | (refine zK ?_; intro Jo JU JC hJo hJU hJC)) <;> (try clear fa))
   refine AW_ret ?_; refine zU ?_; refine ⟨_, .rfl', .inr rfl, ?_, [], 2, finOk_nil, ?_⟩ <;> (have fa := zT; first | exact zE0 | (refine zE ?_; try clear fa))
   exact LeV.nil _ _
  | true =>
   rw [c1] at CF
   cases c2 : fullB s h with
   | false =>
    rw [c2] at CU
    refine acall_ofW (nx := 0) (ne := 0) tysGood (DD_ok tysGood mixed _) Tryz.func28 (by rfl) (by rfl) (by simp [Tryz.ntmps28]) (fun p hp => by cases hp) ?_; rw [Tryz.ntmps28]; let tb := ord_28; let lv := live_28
    (have fa := zT; (repeat' first | refine zS (CF) ?_ | refine zS (CU) ?_ | refine zQ ?_ | (refine zN ?_; intro K hC hK) | ((repeat clear hJo hJU hJC Jo JU JC); (repeat (fail_if_success (refine hK _ ?_)); clear hK hC K); refine hK _ ?_; clear hK hC K) | (refine zC ?_ ?_ <;> intro hb) | (refine zK ?_; intro Jo JU JC hJo hJU hJC)) <;> (try clear fa))
    refine AW_ret ?_; refine zU ?_; refine ⟨_, .rfl', .inr rfl, ?_, [], 2, finOk_nil, ?_⟩ <;> (have fa := zT; first | exact zE0 | (refine zE ?_; try clear fa))
    exact LeV.nil _ _
   | true =>
    rw [c2] at CU
    rw [c1, c2] at ha
    clear c1 c2
    obtain ⟨bag, me⟩ := h
    dsimp only at *
    by_cases c3 : 0 ≤ last
    ·by_cases c4 : last < (bag.length : Int)
     ·have hbl : bag.getD last.toNat 0 = bag[last.toNat]'(by omega) := by rw [List.getD_eq_getElem?_getD, List.getElem?_eq_getElem (by omega)]; rfl
      have hb0 : bag[last.toNat]'(by omega) = 0 := by
       rw [← hbl]
       by_cases h0 : bag.getD last.toNat 0 = 0
       ·exact h0
       ·exact absurd (by rw [decide_eq_true c3, decide_eq_true c4, decide_eq_true h0]; rfl) ha
      refine acall_ofW (nx := 0) (ne := 0) tysGood (DD_ok tysGood mixed _) Tryz.func28 (by rfl) (by rfl) (by simp [Tryz.ntmps28]) (fun p hp => by cases hp) ?_; rw [Tryz.ntmps28]; let tb := ord_28; let lv := live_28
      (have fa := zT; (repeat' first | refine zS (CF) ?_ | refine zS (CU) ?_ | refine zQ ?_ | (refine zN ?_; intro K hC hK) | ((repeat clear hJo hJU hJC Jo JU JC); (repeat (fail_if_success (refine hK _ ?_)); clear hK hC K); refine hK _ ?_; clear hK hC K) | (refine zC ?_ ?_ <;> intro hb) | (refine zK ?_; intro Jo JU JC hJo hJU hJC)) <;> (try clear fa))
      refine AW_ret ?_; refine zU ?_; refine ⟨_, .rfl', .inr rfl, ?_, [], 2, finOk_nil, ?_⟩ <;> (have fa := zT; first | exact zE0 | (refine zE ?_; try clear fa))
      exact LeV.nil _ _
     ·refine acall_ofW (nx := 0) (ne := 0) tysGood (DD_ok tysGood mixed _) Tryz.func28 (by rfl) (by rfl) (by simp [Tryz.ntmps28]) (fun p hp => by cases hp) ?_; rw [Tryz.ntmps28]; let tb := ord_28; let lv := live_28
      (have fa := zT; (repeat' first | refine zS (CF) ?_ | refine zS (CU) ?_ | refine zQ ?_ | (refine zN ?_; intro K hC hK) | ((repeat clear hJo hJU hJC Jo JU JC); (repeat (fail_if_success (refine hK _ ?_)); clear hK hC K); refine hK _ ?_; clear hK hC K) | (refine zC ?_ ?_ <;> intro hb) | (refine zK ?_; intro Jo JU JC hJo hJU hJC)) <;> (try clear fa))
      refine AW_ret ?_; refine zU ?_; refine ⟨_, .rfl', .inr rfl, ?_, [], 2, finOk_nil, ?_⟩ <;> (have fa := zT; first | exact zE0 | (refine zE ?_; try clear fa))
      exact LeV.nil _ _
    ·refine acall_ofW (nx := 0) (ne := 0) tysGood (DD_ok tysGood mixed _) Tryz.func28 (by rfl) (by rfl) (by simp [Tryz.ntmps28]) (fun p hp => by cases hp) ?_; rw [Tryz.ntmps28]; let tb := ord_28; let lv := live_28
     (have fa := zT; (repeat' first | refine zS (CF) ?_ | refine zS (CU) ?_ | refine zQ ?_ | (refine zN ?_; intro K hC hK) | ((repeat clear hJo hJU hJC Jo JU JC); (repeat (fail_if_success (refine hK _ ?_)); clear hK hC K); refine hK _ ?_; clear hK hC K) | (refine zC ?_ ?_ <;> intro hb) | (refine zK ?_; intro Jo JU JC hJo hJU hJC)) <;> (try clear fa))
     refine AW_ret ?_; refine zU ?_; refine ⟨_, .rfl', .inr rfl, ?_, [], 2, finOk_nil, ?_⟩ <;> (have fa := zT; first | exact zE0 | (refine zE ?_; try clear fa))
     exact LeV.nil _ _
end Go.Proofs.YthblfhgofopcaaaGreat
