/-
  Parts of the proof: FrmF.
-/
import Derived.Test.YthblfhgofopcaaaGreatHA17
import Derived.Test.YthblfhgofopcaaaGreatHA33
import Derived.Test.YthblfhgofopcaaaGreatHA39
set_option linter.all false
namespace Go.Proofs.YthblfhgofopcaaaGreat
open Go.RowKit
set_option maxRecDepth 100000
set_option maxHeartbeats 2000000
set_option maxHeartbeats 8000000 in
theorem from_F (s : TSet) (hv : chkErr s = 0) : ∀ (f k : Nat) (x : Sx) (out : List (List Gp)), FP s f k x → out.length + 3 ^ f ≤ 1000000000 → FromF s k x out (newL s f x) := by
 intro f
 induction f with
 | zero =>
  intro k x out hp _
  have h1 := hp.sm
  have h2 := sum_nonneg (l := x.left) fun i => (hp.sb i).1
  exact absurd h1 (by omega)
 | succ f ih =>
  rintro k ⟨left, pd, so, junk, gs, go⟩ out hp hlen
  have hK : kindsI s ≤ 60 := by have := kinds_co s; omega
  have hln := hp.ln
  have hso := hp.so
  have hle := hp.le
  have hfl := firstK_le left
  dsimp only at hln hso hle
  have h3f : 3 ^ (f + 1) = 3 ^ f + 3 ^ f + 3 ^ f := by rw [Nat.pow_succ]; omega
  have h3p : 1 ≤ 3 ^ f := Nat.one_le_pow _ _ (by omega)
  obtain ⟨N, hN⟩ : ∃ N, newL s (f + 1) ⟨left, pd, so, junk, gs, go⟩ = N := ⟨_, rfl⟩
  rw [hN]
  unfold FromF
  dsimp only
  refine acall_ofW (nx := 64) (ne := 10) tysGood (DD_ok tysGood mixed _) Tryz.func158 (by rfl) (by rfl) (by simp [Tryz.ntmps158]) (by simp) ?_; rw [Tryz.ntmps158]; let tb := ord_158; let lv := live_158
  (have fa := zT; (repeat' first | refine zQ ?_ | (refine zN ?_; intro K hC hK) | ((repeat clear hJo hJU hJC Jo JU JC); (repeat (fail_if_success (refine hK _ ?_)); clear hK hC K); refine hK _ ?_; clear hK hC K) | (refine zC ?_ ?_ <;> intro hb) | (refine zK ?_; intro Jo JU JC hJo hJU hJC)) <;> (try clear fa))
  refine AW_loopC (fun m σ => ∃ j : Nat, m = left.length - j ∧ k ≤ j ∧ j ≤ firstK left ∧ σ = ⟨900, [(1, .ref 1 0 0 0), (2, .ref 2 0 0 0), (3, .ref 3 0 0 0), (4, .ref 4 0 0 0), (5, .ref 5 0 0 0), (6, .ref 6 0 0 0), (7, .ref 0 0 0 0), (8, .ref 10 0 0 0)], [(0, .arr 0 9 [eSet s]), (1, .arr 0 1 [.rsl 7 1 0 left.length]), (2, .arr 0 1 [B pd]), (3, .arr 0 1 [.rsl 9 go 0 out.length]), (4, .arr 0 1 [.rsl 8 gs 0 so.length]), (5, .arr 0 1 [fromC]), (6, .arr 0 1 [putC]), (7, .arr 1 1 (left.map I)), (8, .arr gs 3 ((so ++ junk).map eGp)), (9, .arr go 1 (out.map (eGps false))), (10, .arr 0 1 [I j])]⟩) [(0, 0), (1, 1), (2, 2), (3, 3), (4, 4), (5, 5), (6, 6), (7, 7), (8, 8), (9, 9), (64, 10)] [(0, 0), (1, 1), (2, 2), (3, 3), (4, 4), (5, 5), (6, 6), (7, 7), (8, 8), (9, 9), (10, 10)] 0 [1, 2, 3, 4, 5, 6, 7, 8] 900 (⟨by decide, by decide, by decide⟩) (⟨by decide, by decide, by decide⟩) ⟨_, k, rfl, Nat.le_refl _, hle, by (have fa := (And.intro @fromC.eq_1 @putC.eq_1); exact zV)⟩ ?_
  rintro m σ' ⟨j, rfl, hj1, hj2, rfl⟩ J hcJ hJ
  have hlt0 := firstK_lt left
  have hne0 := firstK_ne left
  by_cases hlt : j < left.length
  ·have hge : left.getD j 0 = left[j] := by simp [hlt]
   by_cases hz : left[j] = 0
   ·(have fa := hz; (repeat' first | refine zQ ?_ | (refine zN ?_; intro K hC hK) | ((repeat clear hJo hJU hJC Jo JU JC); (repeat (fail_if_success (refine hK _ ?_)); clear hK hC K); refine hK _ ?_; clear hK hC K) | (refine zC ?_ ?_ <;> intro hb) | (refine zK ?_; intro Jo JU JC hJo hJU hJC)) <;> (try clear fa))
    refine hJ _ _ (show left.length - (j + 1) < left.length - j by omega) ⟨j + 1, rfl, by omega, ?_, by (have fa := (And.intro @fromC.eq_1 @putC.eq_1); exact zV)⟩
    rcases Nat.lt_or_ge j (firstK left) with h | h
    ·exact h
    ·exfalso
     have : j = firstK left := by omega
     subst this
     exact hne0 hlt (by rw [hge]; exact hz)
   ·have hj : j = firstK left := by
     rcases Nat.lt_or_ge j (firstK left) with h | h
     ·exact absurd (hlt0 j h) (by rw [hge]; exact hz)
     ·omega
    obtain ⟨q, hq⟩ : ∃ q, firstK left = q := ⟨_, rfl⟩
    rw [hq] at hj
    subst hj
    (have fa := zT; (repeat' first | refine zQs ?_ | (refine zN ?_; intro K hC hK) | ((repeat clear hJo hJU hJC Jo JU JC); (repeat (fail_if_success (refine hK _ ?_)); clear hK hC K); refine hK _ ?_; clear hK hC K) | (refine zK ?_; intro Jo JU JC hJo hJU hJC)) <;> (try clear fa))
    refine AW_isF rfl (by first | rfl | (simp; omega)) ?_
    (have fa := zT; (repeat' first | refine zQs ?_ | (refine zN ?_; intro K hC hK) | ((repeat clear hJo hJU hJC Jo JU JC); (repeat (fail_if_success (refine hK _ ?_)); clear hK hC K); refine hK _ ?_; clear hK hC K) | (refine zK ?_; intro Jo JU JC hJo hJU hJC)) <;> (try clear fa))
    refine AW_isF rfl (by simp; omega) ?_
    refine AW_skip ?_
    repeat first | (with_reducible refine then_normal ?_) | (with_reducible refine block_normal ?_)
    refine hK _ ?_
    refine AW_join3 fun K0 hC0 hK0 => ?_
    have hlt1 : firstK left < left.length := by omega
    rw [newL_succ s f _ (by dsimp only; omega)] at hN
    obtain ⟨n1, hn1⟩ : ∃ n1, new1 s f ⟨left, pd, so, junk, gs, go⟩ = n1 := ⟨_, rfl⟩
    obtain ⟨n2, hn2⟩ : ∃ n2, new2 s f ⟨left, pd, so, junk, gs, go⟩ = n2 := ⟨_, rfl⟩
    obtain ⟨n3, hn3⟩ : ∃ n3, new3 s f ⟨left, pd, so, junk, gs, go⟩ = n3 := ⟨_, rfl⟩
    rw [hn1, hn2, hn3] at hN
    have l1 : n1.length ≤ 3 ^ f := by rw [← hn1]; unfold new1; split; exact newL_len _ _ _; simp
    have l2 : n2.length ≤ 3 ^ f := by rw [← hn2]; unfold new2; split; exact newL_len _ _ _; simp
    rw [new3_eq s f left pd so junk gs go hq] at hn3
    have w4 := fun hc => way4 hp hlt1 hc
    have w2 := fun hc => way2 hp hlt1 hc
    have w1 := fun hr h1 h2 => way1 hp hlt1 hr h1 h2
    dsimp only at w4 w2 w1
    rw [hq] at w4 w2 w1
    have nx : ∀ (wh : Int) (w : Way s ⟨left, pd, so, junk, gs, go⟩ wh) (pd' : Bool) (gs' go' : Nat), FP s f j ⟨decL left (tilesL wh j), pd', so ++ [gp wh j], [], gs', go'⟩ := fun wh w pd' gs' go' => by
     have := w.next hp pd' gs' go'
     dsimp only at this
     rw [hq] at this; exact this
    have bd : ∀ i, -1000 ≤ left.getD i 0 ∧ left.getD i 0 ≤ 1000 := fun i => by have := hp.sb i; dsimp only at this; omega
    have putAt : ∀ (wh : Int) (w : Way s ⟨left, pd, so, junk, gs, go⟩ wh) (pd' : Bool) (jk : List Gp) (gs' go' : Nat) (o : List (List Gp)), o.length + 3 ^ f ≤ 1000000000 → PutF s j (gp wh j) ⟨left, pd', so, jk, gs', go'⟩ o (newL s f ⟨decL left (tilesL wh j), pd', so ++ [gp wh j], [], 0, 0⟩) := fun wh w pd' jk gs' go' o ho => by
     have hg := w.gr
     have hi := w.inb
     dsimp only at hg hi
     rw [hq] at hg hi
     exact put_F s j (gp wh j) ⟨left, pd', so, jk, gs', go'⟩ o _ hv hg hi bd (by dsimp only; omega) (by dsimp only; omega) fun g2 => on_F s j _ o _ (ih j _ o (nx wh w pd' g2 go') ho)
    clear w4 w2 w1 nx
    have W4 := fun hc => way4 hp hlt1 hc
    have W2 := fun hc => way2 hp hlt1 hc
    have W1 := fun hr h1 h2 => way1 hp hlt1 hr h1 h2
    dsimp only at W4 W2 W1
    rw [hq] at W4 W2 W1
    have key0 : ∀ last : Int, lastW so.getLast? j = last → K0 ⟨900, [(1, .ref 1 0 0 0), (2, .ref 2 0 0 0), (6, .ref 6 0 0 0), (7, .ref 0 0 0 0), (8, .ref 10 0 0 0), (9, .clo 160 [.ref 5 0 0 0, .ref 10 0 0 0]), (10, I last)], [(0, .arr 0 9 [eSet s]), (1, .arr 0 1 [.rsl 7 1 0 left.length]), (2, .arr 0 1 [B pd]), (3, .arr 0 1 [.rsl 9 go 0 (out).length]), (4, .arr 0 1 [.rsl 8 gs 0 so.length]), (5, .arr 0 1 [fromC]), (6, .arr 0 1 [putC]), (7, .arr 1 1 (left.map I)), (8, .arr gs 3 ((so ++ junk).map eGp)), (9, .arr go 1 ((out).map (eGps false))), (10, .arr 0 1 [I j])]⟩ := by
     intro last hlast
     rw [new1_eq s f left pd so junk gs go hq hlast] at hn1
     rw [new2_eq s f left pd so junk gs go hq hlast] at hn2
     refine hK0 _ ?_
     refine AW_seqC fun K1 hC1 hK1 => ?_
     have key1 : ∀ (jk : List Gp) (g2 o2 : Nat), K1 ⟨900, [(1, .ref 1 0 0 0), (6, .ref 6 0 0 0), (7, .ref 0 0 0 0), (8, .ref 10 0 0 0), (9, .clo 160 [.ref 5 0 0 0, .ref 10 0 0 0]), (10, I last)], [(0, .arr 0 9 [eSet s]), (1, .arr 0 1 [.rsl 7 1 0 left.length]), (2, .arr 0 1 [B pd]), (3, .arr 0 1 [.rsl 9 o2 0 (out ++ n1).length]), (4, .arr 0 1 [.rsl 8 g2 0 so.length]), (5, .arr 0 1 [fromC]), (6, .arr 0 1 [putC]), (7, .arr 1 1 (left.map I)), (8, .arr g2 3 ((so ++ jk).map eGp)), (9, .arr o2 1 ((out ++ n1).map (eGps false))), (10, .arr 0 1 [I j])]⟩ := by
      intro jk g2 o2
      refine hK1 _ ?_
      refine AW_seqC fun K2 hC2 hK2 => ?_
      have key2 : ∀ (jk : List Gp) (g2 o2 : Nat), K2 ⟨900, [(6, .ref 6 0 0 0), (7, .ref 0 0 0 0), (8, .ref 10 0 0 0), (9, .clo 160 [.ref 5 0 0 0, .ref 10 0 0 0]), (1, .ref 1 0 0 0)], [(0, .arr 0 9 [eSet s]), (1, .arr 0 1 [.rsl 7 1 0 left.length]), (2, .arr 0 1 [B pd]), (3, .arr 0 1 [.rsl 9 o2 0 ((out ++ n1) ++ n2).length]), (4, .arr 0 1 [.rsl 8 g2 0 so.length]), (5, .arr 0 1 [fromC]), (6, .arr 0 1 [putC]), (7, .arr 1 1 (left.map I)), (8, .arr g2 3 ((so ++ jk).map eGp)), (9, .arr o2 1 (((out ++ n1) ++ n2).map (eGps false))), (10, .arr 0 1 [I j])]⟩ := by
       intro jk g2 o2
       refine hK2 _ ?_
       have CR := says_Runs s (j : Int)
       have hNl : out.length + N.length = ((out ++ n1) ++ n2).length + n3.length := by rw [← hN]; simp; omega
       have hNe : ((out ++ n1) ++ n2) ++ n3 = out ++ N := by rw [← hN]; simp
       by_cases hc : runsB s (j : Int) = true ∧ 0 < left.getD (j + 1) 0 ∧ 0 < left.getD (j + 2) 0
       ·obtain ⟨r1, r2, r3⟩ := hc
        rw [if_pos ⟨r1, r2, r3⟩] at hn3
        have hkr := runs_in r1
        have hj1' : j + 1 < left.length := by omega
        have hj2' : j + 2 < left.length := by omega
        have q1 : left.getD (j + 1) 0 = left[j + 1] := by simp [hj1']
        have q2 : left.getD (j + 2) 0 = left[j + 2] := by simp [hj2']
        have P1 := putAt 1 (W1 r1 r2 r3) pd jk g2 o2 ((out ++ n1) ++ n2) (by simp; omega)
        rw [hn3] at P1
        rw [r1] at CR
        (have fa := @putC.eq_1; (repeat' first | refine zS (CR) ?_ | refine zQ ?_ | (refine zN ?_; intro K hC hK) | ((repeat clear hJo hJU hJC Jo JU JC); (repeat (fail_if_success (refine hK _ ?_)); clear hK hC K); refine hK _ ?_; clear hK hC K) | (refine zC ?_ ?_ <;> intro hb) | (refine zK ?_; intro Jo JU JC hJo hJU hJC)) <;> (try clear fa))
        unfold PutF at P1
        dsimp only at P1
        with_reducible apply CallW.obj [0, 1, 2, 3, 4, 5, 6, 7, 8, 9, 10] P1
        ·first | rfl | ((have fa := (And.intro @fromC.eq_1 (And.intro @putC.eq_1 @onC.eq_1)); first | exact zE0 | (refine zE ?_; try clear fa)); done) | ((have fa := (And.intro @fromC.eq_1 (And.intro @putC.eq_1 @onC.eq_1)); first | exact zE0 | (refine zE ?_; try clear fa)); rfl)
        ·first | rfl | ((have fa := (And.intro @fromC.eq_1 (And.intro @putC.eq_1 @onC.eq_1)); first | exact zE0 | (refine zE ?_; try clear fa)); done) | ((have fa := (And.intro @fromC.eq_1 (And.intro @putC.eq_1 @onC.eq_1)); first | exact zE0 | (refine zE ?_; try clear fa)); rfl)
        ·decide
        ·intro r hr; simp at hr; rcases hr with rfl | rfl | rfl | rfl | rfl | rfl | rfl | rfl | rfl | rfl | rfl <;> exact ⟨_, _, _, rfl⟩
        ·refine ⟨by (have fa := (And.intro @fromC.eq_1 (And.intro @putC.eq_1 @onC.eq_1)); first | exact zE0 | (refine zE ?_; try clear fa)), ?_⟩
         intro r hr g sz es he
         simp at hr
         rcases hr with rfl | rfl | rfl | rfl | rfl | rfl | rfl | rfl | rfl | rfl | rfl
         all_goals
          injection he with h1 h2 h3
          subst h1 h2 h3
          first | rfl | ((have fa := (And.intro @fromC.eq_1 (And.intro @putC.eq_1 @onC.eq_1)); first | exact zE0 | (refine zE ?_; try clear fa)); done) | ((have fa := (And.intro @fromC.eq_1 (And.intro @putC.eq_1 @onC.eq_1)); first | exact zE0 | (refine zE ?_; try clear fa)); rfl)
        rintro v hl ⟨rfl, jk2, g3, o3, rfl⟩
        refine ⟨⟨by simp, by simp⟩, ?_, ?_⟩
        ·intro p hp; simp at hp; rcases hp with rfl | rfl | rfl | rfl | rfl | rfl | rfl | rfl | rfl | rfl | rfl <;> intro h <;> simp at h
        (have fa := (And.intro @fromC.eq_1 (And.intro @putC.eq_1 @onC.eq_1)); first | exact zE0 | (refine zE ?_; try clear fa))
        refine hJC _ _ _ ?_
        clear hJo hJU hJC Jo JU JC
        (have fa := zT; (repeat' first | refine zQ ?_ | (refine zN ?_; intro K hC hK) | ((repeat clear hJo hJU hJC Jo JU JC); (repeat (fail_if_success (refine hK _ ?_)); clear hK hC K); refine hK _ ?_; clear hK hC K) | (refine zC ?_ ?_ <;> intro hb) | (refine zK ?_; intro Jo JU JC hJo hJU hJC)) <;> (try clear fa))
        (repeat first | (with_reducible refine then_normal ?_) | (with_reducible refine block_normal ?_) | (with_reducible refine scope_normal ?_)); refine ⟨_, .rfl', .inl rfl, ?_, [(0, 0), (1, 1), (2, 2), (3, 3), (4, 4), (5, 5), (6, 6), (7, 7), (8, 8), (9, 9)], 2, ⟨by decide, by decide, by decide⟩, ?_⟩ <;> (have fa := zT; first | exact zE0 | (refine zE ?_; try clear fa))
        exact ⟨jk2, g3, o3, by rw [hNl, ← hNe]; first | rfl | ((have fa := (And.intro @fromC.eq_1 (And.intro @putC.eq_1 @onC.eq_1)); first | exact zE0 | (refine zE ?_; try clear fa)); done) | ((have fa := (And.intro @fromC.eq_1 (And.intro @putC.eq_1 @onC.eq_1)); first | exact zE0 | (refine zE ?_; try clear fa)); rfl)⟩
       ·rw [if_neg hc] at hn3
        subst hn3
        by_cases r1 : runsB s (j : Int) = true
        ·have hkr := runs_in r1
         have hj1' : j + 1 < left.length := by omega
         have hj2' : j + 2 < left.length := by omega
         have q1 : left.getD (j + 1) 0 = left[j + 1] := by simp [hj1']
         have q2 : left.getD (j + 2) 0 = left[j + 2] := by simp [hj2']
         rw [r1] at CR
         rw [q1, q2] at hc
         (have fa := @putC.eq_1; (repeat' first | refine zS (CR) ?_ | refine zQ ?_ | (refine zN ?_; intro K hC hK) | ((repeat clear hJo hJU hJC Jo JU JC); (repeat (fail_if_success (refine hK _ ?_)); clear hK hC K); refine hK _ ?_; clear hK hC K) | (refine zC ?_ ?_ <;> intro hb) | (refine zK ?_; intro Jo JU JC hJo hJU hJC)) <;> (try clear fa))
         all_goals first
          | (exfalso; exact hc ⟨r1, by assumption, by assumption⟩)
          | skip
         all_goals
          (repeat first | (with_reducible refine then_normal ?_) | (with_reducible refine block_normal ?_) | (with_reducible refine scope_normal ?_)); refine ⟨_, .rfl', .inl rfl, ?_, [(0, 0), (1, 1), (2, 2), (3, 3), (4, 4), (5, 5), (6, 6), (7, 7), (8, 8), (9, 9)], 2, ⟨by decide, by decide, by decide⟩, ?_⟩ <;> (have fa := zT; first | exact zE0 | (refine zE ?_; try clear fa))
          exact ⟨jk, g2, o2, by rw [hNl, ← hNe]; first | rfl | ((have fa := (And.intro @fromC.eq_1 (And.intro @putC.eq_1 @onC.eq_1)); first | exact zE0 | (refine zE ?_; try clear fa)); done) | ((have fa := (And.intro @fromC.eq_1 (And.intro @putC.eq_1 @onC.eq_1)); first | exact zE0 | (refine zE ?_; try clear fa)); rfl)⟩
        ·rw [show runsB s (j : Int) = false by simpa using r1] at CR
         (have fa := @putC.eq_1; (repeat' first | refine zS (CR) ?_ | refine zQ ?_ | (refine zN ?_; intro K hC hK) | ((repeat clear hJo hJU hJC Jo JU JC); (repeat (fail_if_success (refine hK _ ?_)); clear hK hC K); refine hK _ ?_; clear hK hC K) | (refine zC ?_ ?_ <;> intro hb) | (refine zK ?_; intro Jo JU JC hJo hJU hJC)) <;> (try clear fa))
         all_goals
          (repeat first | (with_reducible refine then_normal ?_) | (with_reducible refine block_normal ?_) | (with_reducible refine scope_normal ?_)); refine ⟨_, .rfl', .inl rfl, ?_, [(0, 0), (1, 1), (2, 2), (3, 3), (4, 4), (5, 5), (6, 6), (7, 7), (8, 8), (9, 9)], 2, ⟨by decide, by decide, by decide⟩, ?_⟩ <;> (have fa := zT; first | exact zE0 | (refine zE ?_; try clear fa))
          exact ⟨jk, g2, o2, by rw [hNl, ← hNe]; first | rfl | ((have fa := (And.intro @fromC.eq_1 (And.intro @putC.eq_1 @onC.eq_1)); first | exact zE0 | (refine zE ?_; try clear fa)); done) | ((have fa := (And.intro @fromC.eq_1 (And.intro @putC.eq_1 @onC.eq_1)); first | exact zE0 | (refine zE ?_; try clear fa)); rfl)⟩
      clear hK2
      by_cases hc : 3 ≤ left.getD j 0 ∧ last ≠ 1
      ·obtain ⟨r1, r2⟩ := hc
       rw [if_pos ⟨r1, r2⟩] at hn2
       have P2 := putAt 2 (W2 r1) pd jk g2 o2 (out ++ n1) (by simp; omega)
       rw [hn2] at P2
       rw [hge] at r1
       (have fa := @putC.eq_1; (repeat' first | refine zQ ?_ | (refine zN ?_; intro K hC hK) | ((repeat clear hJo hJU hJC Jo JU JC); (repeat (fail_if_success (refine hK _ ?_)); clear hK hC K); refine hK _ ?_; clear hK hC K) | (refine zC ?_ ?_ <;> intro hb) | (refine zK ?_; intro Jo JU JC hJo hJU hJC)) <;> (try clear fa))
       unfold PutF at P2
       dsimp only at P2
       with_reducible apply CallW.obj [0, 1, 2, 3, 4, 5, 6, 7, 8, 9, 10] P2
       ·first | rfl | ((have fa := (And.intro @fromC.eq_1 (And.intro @putC.eq_1 @onC.eq_1)); first | exact zE0 | (refine zE ?_; try clear fa)); done) | ((have fa := (And.intro @fromC.eq_1 (And.intro @putC.eq_1 @onC.eq_1)); first | exact zE0 | (refine zE ?_; try clear fa)); rfl)
       ·first | rfl | ((have fa := (And.intro @fromC.eq_1 (And.intro @putC.eq_1 @onC.eq_1)); first | exact zE0 | (refine zE ?_; try clear fa)); done) | ((have fa := (And.intro @fromC.eq_1 (And.intro @putC.eq_1 @onC.eq_1)); first | exact zE0 | (refine zE ?_; try clear fa)); rfl)
       ·decide
       ·intro r hr; simp at hr; rcases hr with rfl | rfl | rfl | rfl | rfl | rfl | rfl | rfl | rfl | rfl | rfl <;> exact ⟨_, _, _, rfl⟩
       ·refine ⟨by (have fa := (And.intro @fromC.eq_1 (And.intro @putC.eq_1 @onC.eq_1)); first | exact zE0 | (refine zE ?_; try clear fa)), ?_⟩
        intro r hr g sz es he
        simp at hr
        rcases hr with rfl | rfl | rfl | rfl | rfl | rfl | rfl | rfl | rfl | rfl | rfl
        all_goals
         injection he with h1 h2 h3
         subst h1 h2 h3
         first | rfl | ((have fa := (And.intro @fromC.eq_1 (And.intro @putC.eq_1 @onC.eq_1)); first | exact zE0 | (refine zE ?_; try clear fa)); done) | ((have fa := (And.intro @fromC.eq_1 (And.intro @putC.eq_1 @onC.eq_1)); first | exact zE0 | (refine zE ?_; try clear fa)); rfl)
       rintro v hl ⟨rfl, jk2, g3, o3, rfl⟩
       refine ⟨⟨by simp, by simp⟩, ?_, ?_⟩
       ·intro p hp; simp at hp; rcases hp with rfl | rfl | rfl | rfl | rfl | rfl | rfl | rfl | rfl | rfl | rfl <;> intro h <;> simp at h
       (have fa := (And.intro @fromC.eq_1 (And.intro @putC.eq_1 @onC.eq_1)); first | exact zE0 | (refine zE ?_; try clear fa))
       refine hJC _ _ _ ?_
       clear hJo hJU hJC Jo JU JC
       (have fa := zT; (repeat' first | refine zQ ?_ | (refine zN ?_; intro K hC hK) | ((repeat clear hJo hJU hJC Jo JU JC); (repeat (fail_if_success (refine hK _ ?_)); clear hK hC K); refine hK _ ?_; clear hK hC K) | (refine zC ?_ ?_ <;> intro hb) | (refine zK ?_; intro Jo JU JC hJo hJU hJC)) <;> (try clear fa))
       exact hC2.go [(0, 0), (1, 1), (2, 2), (3, 3), (4, 4), (5, 5), (6, 6), (7, 7), (8, 8), (9, 9), (10, 10)] 0 [6, 7, 8, 9, 1] 900 _ _ (by exact ⟨by decide, by decide, by decide⟩) (key2 jk2 g3 o3) (by (have fa := (And.intro @fromC.eq_1 (And.intro @putC.eq_1 @onC.eq_1)); exact zSE))
      ·rw [if_neg hc] at hn2
       subst hn2
       rw [hge] at hc
       (have fa := zT; (repeat' first | refine zQ ?_ | (refine zN ?_; intro K hC hK) | ((repeat clear hJo hJU hJC Jo JU JC); (repeat (fail_if_success (refine hK _ ?_)); clear hK hC K); refine hK _ ?_; clear hK hC K) | (refine zC ?_ ?_ <;> intro hb) | (refine zK ?_; intro Jo JU JC hJo hJU hJC)) <;> (try clear fa))
       all_goals first
        | (exfalso; exact hc ⟨by assumption, by assumption⟩)
        | exact hC2.go [(0, 0), (1, 1), (2, 2), (3, 3), (4, 4), (5, 5), (6, 6), (7, 7), (8, 8), (9, 9), (10, 10)] 0 [6, 7, 8, 9, 1] 900 _ _ (by exact ⟨by decide, by decide, by decide⟩) (key2 jk g2 o2) (by (have fa := (And.intro @fromC.eq_1 (And.intro @putC.eq_1 @onC.eq_1)); exact zSE))
     clear hK1
     by_cases hc : 2 ≤ left.getD j 0 ∧ pd = false ∧ last = 0
     ·obtain ⟨r1, rfl, rfl⟩ := hc
      rw [if_pos ⟨r1, rfl, rfl⟩] at hn1
      have P4 := putAt 4 (W4 r1) true junk gs go out (by omega)
      rw [hn1] at P4
      rw [hge] at r1
      (have fa := @putC.eq_1; (repeat' first | refine zQ ?_ | (refine zN ?_; intro K hC hK) | ((repeat clear hJo hJU hJC Jo JU JC); (repeat (fail_if_success (refine hK _ ?_)); clear hK hC K); refine hK _ ?_; clear hK hC K) | (refine zC ?_ ?_ <;> intro hb) | (refine zK ?_; intro Jo JU JC hJo hJU hJC)) <;> (try clear fa))
      unfold PutF at P4
      dsimp only at P4
      with_reducible apply CallW.obj [0, 1, 2, 3, 4, 5, 6, 7, 8, 9, 10] P4
      ·first | rfl | ((have fa := (And.intro @fromC.eq_1 (And.intro @putC.eq_1 @onC.eq_1)); first | exact zE0 | (refine zE ?_; try clear fa)); done) | ((have fa := (And.intro @fromC.eq_1 (And.intro @putC.eq_1 @onC.eq_1)); first | exact zE0 | (refine zE ?_; try clear fa)); rfl)
      ·first | rfl | ((have fa := (And.intro @fromC.eq_1 (And.intro @putC.eq_1 @onC.eq_1)); first | exact zE0 | (refine zE ?_; try clear fa)); done) | ((have fa := (And.intro @fromC.eq_1 (And.intro @putC.eq_1 @onC.eq_1)); first | exact zE0 | (refine zE ?_; try clear fa)); rfl)
      ·decide
      ·intro r hr; simp at hr; rcases hr with rfl | rfl | rfl | rfl | rfl | rfl | rfl | rfl | rfl | rfl | rfl <;> exact ⟨_, _, _, rfl⟩
      ·refine ⟨by (have fa := (And.intro @fromC.eq_1 (And.intro @putC.eq_1 @onC.eq_1)); first | exact zE0 | (refine zE ?_; try clear fa)), ?_⟩
       intro r hr g sz es he
       simp at hr
       rcases hr with rfl | rfl | rfl | rfl | rfl | rfl | rfl | rfl | rfl | rfl | rfl
       all_goals
        injection he with h1 h2 h3
        subst h1 h2 h3
        first | rfl | ((have fa := (And.intro @fromC.eq_1 (And.intro @putC.eq_1 @onC.eq_1)); first | exact zE0 | (refine zE ?_; try clear fa)); done) | ((have fa := (And.intro @fromC.eq_1 (And.intro @putC.eq_1 @onC.eq_1)); first | exact zE0 | (refine zE ?_; try clear fa)); rfl)
      rintro v hl ⟨rfl, jk2, g3, o3, rfl⟩
      refine ⟨⟨by simp, by simp⟩, ?_, ?_⟩
      ·intro p hp; simp at hp; rcases hp with rfl | rfl | rfl | rfl | rfl | rfl | rfl | rfl | rfl | rfl | rfl <;> intro h <;> simp at h
      (have fa := (And.intro @fromC.eq_1 (And.intro @putC.eq_1 @onC.eq_1)); first | exact zE0 | (refine zE ?_; try clear fa))
      refine hJC _ _ _ ?_
      clear hJo hJU hJC Jo JU JC
      (have fa := zT; (repeat' first | refine zQ ?_ | (refine zN ?_; intro K hC hK) | ((repeat clear hJo hJU hJC Jo JU JC); (repeat (fail_if_success (refine hK _ ?_)); clear hK hC K); refine hK _ ?_; clear hK hC K) | (refine zC ?_ ?_ <;> intro hb) | (refine zK ?_; intro Jo JU JC hJo hJU hJC)) <;> (try clear fa))
      exact hC1.go [(0, 0), (1, 1), (2, 2), (3, 3), (4, 4), (5, 5), (6, 6), (7, 7), (8, 8), (9, 9), (10, 10)] 0 [1, 6, 7, 8, 9, 10] 900 _ _ (by exact ⟨by decide, by decide, by decide⟩) (key1 jk2 g3 o3) (by (have fa := (And.intro @fromC.eq_1 (And.intro @putC.eq_1 @onC.eq_1)); exact zSE))
     ·rw [if_neg hc] at hn1
      subst hn1
      rw [hge] at hc
      (have fa := zT; (repeat' first | refine zQ ?_ | (refine zN ?_; intro K hC hK) | ((repeat clear hJo hJU hJC Jo JU JC); (repeat (fail_if_success (refine hK _ ?_)); clear hK hC K); refine hK _ ?_; clear hK hC K) | (refine zC ?_ ?_ <;> intro hb) | (refine zK ?_; intro Jo JU JC hJo hJU hJC)) <;> (try clear fa))
      all_goals first
       | (exfalso; exact hc ⟨by assumption, by assumption, by assumption⟩)
       | exact hC1.go [(0, 0), (1, 1), (2, 2), (3, 3), (4, 4), (5, 5), (6, 6), (7, 7), (8, 8), (9, 9), (10, 10)] 0 [1, 6, 7, 8, 9, 10] 900 _ _ (by exact ⟨by decide, by decide, by decide⟩) (key1 junk gs go) (by (have fa := (And.intro @fromC.eq_1 (And.intro @putC.eq_1 @onC.eq_1)); exact zSE))
    clear hK0
    rcases List.eq_nil_or_concat so with rfl | ⟨so', p, rfl⟩
    ·(have fa := zT; (repeat' first | refine zQ ?_ | (refine zN ?_; intro K hC hK) | ((repeat clear hJo hJU hJC Jo JU JC); (repeat (fail_if_success (refine hK _ ?_)); clear hK hC K); refine hK _ ?_; clear hK hC K) | (refine zC ?_ ?_ <;> intro hb) | (refine zK ?_; intro Jo JU JC hJo hJU hJC)) <;> (try clear fa))
     exact hC0.go [(0, 0), (1, 1), (2, 2), (3, 3), (4, 4), (5, 5), (6, 6), (7, 7), (8, 8), (9, 9), (10, 10)] 0 [1, 2, 6, 7, 8, 9, 10] 900 _ _ (by exact ⟨by decide, by decide, by decide⟩) (key0 0 rfl) (by (have fa := (And.intro @fromC.eq_1 (And.intro @putC.eq_1 @onC.eq_1)); exact zSE))
    ·rw [List.concat_eq_append] at *
     have hsl : so'.length + 1 ≤ 1000 := by simp at hso; omega
     have e11 : ((((so'.length + 1 : Nat) : Int) - 1).toNat) = so'.length := by omega
     have e12 : nth (List.map eGp (so' ++ [p] ++ junk)) so'.length = eGp p := by simp [nth]
     have hlast : lastW (so' ++ [p]).getLast? (j : Int) = if p.kd = (j : Int) then p.wh else 0 := by simp [lastW]
     by_cases hpk : p.kd = (j : Int)
     ·rw [if_pos hpk] at hlast
      (have fa := (And.intro e11 e12); (repeat' first | refine zQ ?_ | (refine zN ?_; intro K hC hK) | ((repeat clear hJo hJU hJC Jo JU JC); (repeat (fail_if_success (refine hK _ ?_)); clear hK hC K); refine hK _ ?_; clear hK hC K) | (refine zC ?_ ?_ <;> intro hb) | (refine zK ?_; intro Jo JU JC hJo hJU hJC)) <;> (try clear fa))
      exact hC0.go [(0, 0), (1, 1), (2, 2), (3, 3), (4, 4), (5, 5), (6, 6), (7, 7), (8, 8), (9, 9), (10, 10)] 0 [1, 2, 6, 7, 8, 9, 10] 900 _ _ (by exact ⟨by decide, by decide, by decide⟩) (key0 _ hlast) (by (have fa := (And.intro @fromC.eq_1 (And.intro @putC.eq_1 @onC.eq_1)); exact zSE))
     ·rw [if_neg hpk] at hlast
      (have fa := (And.intro e11 e12); (repeat' first | refine zQ ?_ | (refine zN ?_; intro K hC hK) | ((repeat clear hJo hJU hJC Jo JU JC); (repeat (fail_if_success (refine hK _ ?_)); clear hK hC K); refine hK _ ?_; clear hK hC K) | (refine zC ?_ ?_ <;> intro hb) | (refine zK ?_; intro Jo JU JC hJo hJU hJC)) <;> (try clear fa))
      exact hC0.go [(0, 0), (1, 1), (2, 2), (3, 3), (4, 4), (5, 5), (6, 6), (7, 7), (8, 8), (9, 9), (10, 10)] 0 [1, 2, 6, 7, 8, 9, 10] 900 _ _ (by exact ⟨by decide, by decide, by decide⟩) (key0 _ hlast) (by (have fa := (And.intro @fromC.eq_1 (And.intro @putC.eq_1 @onC.eq_1)); exact zSE))
  ·have hj : j = left.length := by omega
   have hfk : firstK left = left.length := by omega
   subst hj
   rw [newL_end s f _ hfk] at hN
   cases pd with
   | true =>
    dsimp only at hN
    rw [if_pos rfl] at hN
    subst hN
    have hne : so ≠ [] := hp.pr rfl
    have hpos : 0 < so.length := List.length_pos_iff.2 hne
    have CO := says_ordered so hpos (by omega) hp.cl
    have hT : (so ++ junk).take so.length = so := by simp
    have hL : so.length ≤ so.length + junk.length := Nat.le_add_right _ _
    (have fa := (And.intro hT (And.intro hL @stepDE_cL)); (repeat' first | refine zS (CO) ?_ | refine zQ ?_ | (refine zN ?_; intro K hC hK) | ((repeat clear hJo hJU hJC Jo JU JC); (repeat (fail_if_success (refine hK _ ?_)); clear hK hC K); refine hK _ ?_; clear hK hC K) | (refine zC ?_ ?_ <;> intro hb) | (refine zK ?_; intro Jo JU JC hJo hJU hJC)) <;> (try clear fa))
    refine AW_ret ?_
    refine zU ?_
    refine ⟨_, wk_ob (r := 9) (g := go + 1) (sz := 1) (es := out.map (eGps false) ++ [eGps true (sortG so)]) (es' := (out ++ [sortG so]).map (eGps false)) (by rfl) (by simp) (ob_snoc out (sortG so)), .inr rfl, ?_, [(0, 0), (1, 1), (2, 2), (3, 3), (4, 4), (5, 5), (6, 6), (7, 7), (8, 8), (9, 9)], 2, ⟨by decide, by decide, by decide⟩, ?_⟩
    ·(have fa := zT; first | exact zE0 | (refine zE ?_; try clear fa))
    ·refine ⟨by (have fa := zT; first | exact zE0 | (refine zE ?_; try clear fa)), junk, gs, go + 1, ?_⟩
     first | rfl | ((have fa := (And.intro @fromC.eq_1 @putC.eq_1); first | exact zE0 | (refine zE ?_; try clear fa)); done) | ((have fa := (And.intro @fromC.eq_1 @putC.eq_1); first | exact zE0 | (refine zE ?_; try clear fa)); rfl)
   | false =>
    dsimp only at hN
    rw [if_neg (by simp)] at hN
    subst hN
    (have fa := zT; (repeat' first | refine zQ ?_ | (refine zN ?_; intro K hC hK) | ((repeat clear hJo hJU hJC Jo JU JC); (repeat (fail_if_success (refine hK _ ?_)); clear hK hC K); refine hK _ ?_; clear hK hC K) | (refine zC ?_ ?_ <;> intro hb) | (refine zK ?_; intro Jo JU JC hJo hJU hJC)) <;> (try clear fa))
    refine AW_ret ?_; refine zU ?_; refine ⟨_, .rfl', .inr rfl, ?_, [(0, 0), (1, 1), (2, 2), (3, 3), (4, 4), (5, 5), (6, 6), (7, 7), (8, 8), (9, 9)], 2, ⟨by decide, by decide, by decide⟩, ?_⟩ <;> (have fa := zT; first | exact zE0 | (refine zE ?_; try clear fa))
    exact ⟨junk, gs, go, by first | rfl | ((have fa := (And.intro @fromC.eq_1 (And.intro @putC.eq_1 (And.intro @List.append_nil.{0} (And.intro @List.length_nil.{0} Nat.add_zero)))); first | exact zE0 | (refine zE ?_; try clear fa)); done) | ((have fa := (And.intro @fromC.eq_1 (And.intro @putC.eq_1 (And.intro @List.append_nil.{0} (And.intro @List.length_nil.{0} Nat.add_zero)))); first | exact zE0 | (refine zE ?_; try clear fa)); rfl)⟩
end Go.Proofs.YthblfhgofopcaaaGreat
