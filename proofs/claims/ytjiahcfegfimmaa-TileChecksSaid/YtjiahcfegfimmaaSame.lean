/-
  Walks of Same, the program's and the reference's.
-/
import Derived.Test.YtjiahcfegfimmaaEq
import Derived.Test.YtjiahcfegfimmaaSizes
import Derived.Outline
namespace Go.Proofs.Ytjiahcfegfimmaa
open Go.RowKit

theorem sEqual_any (v1 v2 : Value) (xs ys : List Int) (w : World) (h1 : IsInts w v1 xs) (h2 : IsInts w v2 ys) : Calls Try.prog 93 #[v1, v2] w (Says w (.bool (decide (xs = ys)))) := by
  obtain ⟨A, c, rfl, hc, hm, hr⟩ := h1
  obtain ⟨B, d, rfl, hd, hm', hs⟩ := h2
  unfold maxLen at hm hm'
  have hfin : ∀ b : Bool, decide (xs = ys) = b → ∀ n, Says w (.bool (decide (xs = ys))) (.returned (.bool b)) (w.drewN n) := fun b hb n => ⟨by rw [hb], n, rfl⟩
  have HF := hid hfin
  clear hfin
  by_cases hl : xs.length = ys.length
  · have hne : ((xs.length : Int) != (ys.length : Int)) = false := by simp [hl]
    have hne' : (xs.length != ys.length) = false := by simp [hl]
    have HL := hid hl
    have hl1 : xs.length ≤ ys.length := by omega
    have hl2 : ys.length ≤ xs.length := by omega
    clear hl
    go_enter Try.func93, Try.ntmps93
    go_wp2
    go_loopw [13] (fun i wr => ∃ k : Nat, k ≤ xs.length ∧ i = .int .i64 (k : Int) ∧ (∀ j (h : j < xs.length) (h' : j < ys.length), j < k → xs[j] = ys[j]) ∧ ∃ n, wr = w.drewN n) (fun i _ => xs.length - (intOf i).toNat)
    case atStart => exact ⟨0, Nat.zero_le _, rfl, by simp, 0, rfl⟩
    case round =>
      obtain ⟨k, hk, rfl, hdr, n, rfl⟩ := hrel
      have HD := hid hdr
      clear hdr
      by_cases h0 : k < xs.length
      · have h0' : k < ys.length := by omega
        obtain ⟨ad, rfl, hb, hx⟩ := hr.int h0
        obtain ⟨ad', rfl, hb', hx'⟩ := hs.int h0'
        have i0 : (0 : Int) ≤ (k : Int) := by omega
        have i1 : (k : Int) < (xs.length : Int) := by omega
        have i2 : (k : Int) < (ys.length : Int) := by omega
        by_cases he : xs[k] = ys[k]
        · have he' : (xs[k] != ys[k]) = false := by simp [he]
          have HE := hid he
          clear he
          go_wp2
          go_quiet (fail)
          go_wp2
          refine ⟨⟨k + 1, by omega, by go_num, fun j h h' hj => ?_, _, rfl⟩, by simp only [intOf]; omega⟩
          by_cases e : j = k
          · subst e; exact HE.out
          · exact HD.out j h h' (by omega)
        · have he' : (xs[k] != ys[k]) = true := by simp [he]
          have HE := hid he
          clear he
          go_wp2
          go_quiet (fail)
          go_wp2
          go_ret
          rw [World.drewN_drewN]
          exact HF.out false (decide_eq_false fun e => HE.out (by subst e; rfl)) _
      · go_wp2
        go_ret
        exact HF.out true (decide_eq_true (List.ext_getElem HL.out fun j h h' => HD.out j h h' (by omega))) _
  · have hne : ((xs.length : Int) != (ys.length : Int)) = true := by simp; omega
    have hne' : (xs.length != ys.length) = true := by simp; omega
    have HL := hid hl
    clear hl
    go_enter Try.func93, Try.ntmps93
    go_wp2
    go_ret
    exact HF.out false (decide_eq_false fun e => HL.out (by rw [e])) 0

theorem SameInts_any (v1 v2 : Value) (xs ys : List Int) (w : World) (h1 : IsInts w v1 xs) (h2 : IsInts w v2 ys) : Calls Try.prog 94 #[v1, v2] w (Says w (.bool (decide (xs = ys)))) := by
  obtain ⟨A, c, rfl, hc, hm, hr⟩ := h1
  obtain ⟨B, d, rfl, hd, hm', hs⟩ := h2
  unfold maxLen at hm hm'
  have hfin : ∀ b : Bool, decide (xs = ys) = b → ∀ n, Says w (.bool (decide (xs = ys))) (.returned (.bool b)) (w.drewN n) := fun b hb n => ⟨by rw [hb], n, rfl⟩
  have HF := hid hfin
  clear hfin
  go_enter Try.func94, Try.ntmps94
  go_wp2
  go_loopw [5] (fun i wr => ∃ k : Nat, k ≤ xs.length ∧ k ≤ ys.length ∧ i = .int .i64 (k : Int) ∧ (∀ j (h : j < xs.length) (h' : j < ys.length), j < k → xs[j] = ys[j]) ∧ ∃ n, wr = w.drewN n) (fun i _ => xs.length - (intOf i).toNat)
  case atStart => exact ⟨0, Nat.zero_le _, Nat.zero_le _, rfl, by simp, 0, rfl⟩
  case round =>
    obtain ⟨k, hk, hk', rfl, hdr, n, rfl⟩ := hrel
    have HD := hid hdr
    clear hdr
    by_cases h0 : k < xs.length
    · by_cases h0' : k < ys.length
      · obtain ⟨ad, rfl, hb, hx⟩ := hr.int h0
        obtain ⟨ad', rfl, hb', hx'⟩ := hs.int h0'
        have i0 : (0 : Int) ≤ (k : Int) := by omega
        have i1 : (k : Int) < (xs.length : Int) := by omega
        have i2 : (k : Int) < (ys.length : Int) := by omega
        by_cases he : xs[k] = ys[k]
        · have he' : (xs[k] != ys[k]) = false := by simp [he]
          have HE := hid he
          clear he
          go_wp2
          go_quiet (fail)
          go_wp2
          refine ⟨⟨k + 1, by omega, by omega, by go_num, fun j h h' hj => ?_, _, rfl⟩, by simp only [intOf]; omega⟩
          by_cases e : j = k
          · subst e; exact HE.out
          · exact HD.out j h h' (by omega)
        · have he' : (xs[k] != ys[k]) = true := by simp [he]
          have HE := hid he
          clear he
          go_wp2
          go_quiet (fail)
          go_wp2
          go_ret
          rw [World.drewN_drewN]
          exact HF.out false (decide_eq_false fun e => HE.out (by subst e; rfl)) _
      · have n1 : (xs.length == ys.length) = false := by simp; omega
        have n2 : ((xs.length : Int) == (ys.length : Int)) = false := beq_eq_false_iff_ne.2 (by omega)
        have HE := hid (show decide (xs = ys) = false from decide_eq_false fun e => by rw [e] at h0; omega)
        go_wp2
        go_ret
        exact HF.out false HE.out _
    · by_cases hl : xs.length = ys.length
      · have n1 : (xs.length == ys.length) = true := by simp [hl]
        have n2 : ((xs.length : Int) == (ys.length : Int)) = true := by simp [hl]
        have HE := hid (show decide (xs = ys) = true from decide_eq_true (List.ext_getElem hl fun j h h' => HD.out j h h' (by omega)))
        clear hl
        go_wp2
        go_ret
        exact HF.out true HE.out _
      · have n1 : (xs.length == ys.length) = false := by simp; omega
        have n2 : ((xs.length : Int) == (ys.length : Int)) = false := beq_eq_false_iff_ne.2 (by omega)
        have HE := hid (show decide (xs = ys) = false from decide_eq_false fun e => hl (by rw [e]))
        clear hl
        go_wp2
        go_ret
        exact HF.out false HE.out _

theorem eq7 (a0 a1 a2 a3 a4 a5 a6 b0 b1 b2 b3 b4 b5 b6 : Int) (w : World) : (Op.equalIn 10000 104 (.agg #[.int .i64 a0, .int .i64 a1, .int .i64 a2, .int .i64 a3, .int .i64 a4, .int .i64 a5, .int .i64 a6]) (.agg #[.int .i64 b0, .int .i64 b1, .int .i64 b2, .int .i64 b3, .int .i64 b4, .int .i64 b5, .int .i64 b6])).run Try.prog w = .ok (decide (a0 = b0 ∧ a1 = b1 ∧ a2 = b2 ∧ a3 = b3 ∧ a4 = b4 ∧ a5 = b5 ∧ a6 = b6)) w := by
  have u3 := Try.underlying3
  have ia := Try.isAgg3
  have z3 := Try.sizeOf3
  rw [show (10000 : Nat) = 9999 + 1 from rfl, Op.equalIn]
  simp only [Sem.run_bind, run_underlying Try.underlying104, Result.andThen_ok]
  simp only [Std.Legacy.Range.forIn_eq_forIn_range', Std.Legacy.Range.size, Nat.sub_zero, Nat.add_sub_cancel, Nat.div_one, List.range'_succ, List.range'_zero, List.forIn_cons, List.forIn_nil]
  go_simp
  by_cases h0 : a0 = b0
  case neg => simp [h0]
  by_cases h1 : a1 = b1
  case neg => simp [h1]
  by_cases h2 : a2 = b2
  case neg => simp [h2]
  by_cases h3 : a3 = b3
  case neg => simp [h3]
  by_cases h4 : a4 = b4
  case neg => simp [h4]
  by_cases h5 : a5 = b5
  case neg => simp [h5]
  by_cases h6 : a6 = b6
  case neg => simp [h6]
  simp [h0, h1, h2, h3, h4, h5, h6]
def numsB (s t : TSet) : Bool := decide (s.pl = t.pl ∧ s.wi = t.wi ∧ s.dr = t.dr ∧ s.fl = t.fl ∧ s.co = t.co ∧ s.me = t.me ∧ s.de = t.de)
def sameB (s t : TSet) : Bool := (decide (s.su = t.su) && decide (s.re = t.re)) && numsB s t
theorem sameB_self (s : TSet) : sameB s s = true := by unfold sameB numsB; simp
set_option maxRecDepth 100000 in
theorem Same_any (v v' : Value) (s t : TSet) (w : World) (h : IsSet w v s) (h' : IsSet w v' t) : Calls Try.prog 43 #[v, v'] w (Gives w (.bool (sameB s t))) := by
  have hfin : ∀ b wf, sameB s t = b → Grow w wf → Gives w (.bool (sameB s t)) (.returned (.bool b)) wf := fun r wf h hg => ⟨by rw [h], hg⟩
  have HF := hid hfin
  obtain ⟨A, c, B, d, rfl, h1, h2⟩ := h.open_
  obtain ⟨A', c', B', d', rfl, h1', h2'⟩ := h'.open_
  have g0 : Grow w ((w.alloc (.cells #[.int .i64 s.pl, .slice A s.su.length c, .int .i64 s.wi, .int .i64 s.dr, .int .i64 s.fl, .int .i64 s.co, .int .i64 s.me, .int .i64 s.de, .slice B s.re.length d] 24)).alloc (.cells #[.int .i64 t.pl, .slice A' t.su.length c', .int .i64 t.wi, .int .i64 t.dr, .int .i64 t.fl, .int .i64 t.co, .int .i64 t.me, .int .i64 t.de, .slice B' t.re.length d'] 24)) := ((Grow.refl w).alloc _).alloc _
  have E1 := hid (fun W (hg : Grow w W) => sEqual_any _ _ _ _ W (h1.grow hg) (h1'.grow hg))
  have E2 := hid (fun W (hg : Grow w W) => sEqual_any _ _ _ _ W (h2.grow hg) (h2'.grow hg))
  clear h1 h2 h1' h2' hfin h h'
  go_enter Try.func43, Try.ntmps43
  go_wp2_with fail
  refine (E1.out _ g0).mono ?_
  rintro e w1 ⟨rfl, n1, rfl⟩
  cases q1 : decide (s.su = t.su)
  · have HE := hid (show sameB s t = false by unfold sameB; rw [q1]; rfl)
    go_wp2
    go_ret
    exact HF.out _ _ HE.out (g0.drewN _)
  · go_wp2_with fail
    refine (E2.out _ (g0.drewN _)).mono ?_
    rintro e w1 ⟨rfl, n2, rfl⟩
    cases q2 : decide (s.re = t.re)
    · have HE := hid (show sameB s t = false by unfold sameB; rw [q1, q2]; rfl)
      go_wp2
      go_ret
      exact HF.out _ _ HE.out ((g0.drewN _))
    · have HE := hid (show sameB s t = numsB s t by unfold sameB; rw [q1, q2]; rfl)
      have hq := eq7 s.pl s.wi s.dr s.fl s.co s.me s.de t.pl t.wi t.dr t.fl t.co t.me t.de
      go_wp2
      go_ret
      exact HF.out _ _ (by rw [HE.out]; unfold numsB; simp) ((g0.drewN _))
set_option maxRecDepth 100000 in
theorem rSame_any (v v' : Value) (s t : TSet) (w : World) (h : IsSet w v s) (h' : IsSet w v' t) : Calls Try.prog 44 #[v, v'] w (Gives w (.bool (sameB s t))) := by
  have hfin : ∀ b wf, sameB s t = b → Grow w wf → Gives w (.bool (sameB s t)) (.returned (.bool b)) wf := fun r wf h hg => ⟨by rw [h], hg⟩
  have HF := hid hfin
  obtain ⟨A, c, B, d, rfl, h1, h2⟩ := h.open_
  obtain ⟨A', c', B', d', rfl, h1', h2'⟩ := h'.open_
  have g0 : Grow w ((w.alloc (.cells #[.int .i64 s.pl, .slice A s.su.length c, .int .i64 s.wi, .int .i64 s.dr, .int .i64 s.fl, .int .i64 s.co, .int .i64 s.me, .int .i64 s.de, .slice B s.re.length d] 24)).alloc (.cells #[.int .i64 t.pl, .slice A' t.su.length c', .int .i64 t.wi, .int .i64 t.dr, .int .i64 t.fl, .int .i64 t.co, .int .i64 t.me, .int .i64 t.de, .slice B' t.re.length d'] 24)) := ((Grow.refl w).alloc _).alloc _
  have E1 := hid (fun W (hg : Grow w W) => SameInts_any _ _ _ _ W (h1.grow hg) (h1'.grow hg))
  have E2 := hid (fun W (hg : Grow w W) => SameInts_any _ _ _ _ W (h2.grow hg) (h2'.grow hg))
  have NO := hid (fun (hn : ¬ (s.pl = t.pl ∧ s.wi = t.wi ∧ s.dr = t.dr ∧ s.fl = t.fl ∧ s.co = t.co ∧ s.me = t.me ∧ s.de = t.de)) => (show sameB s t = false by unfold sameB numsB; rw [decide_eq_false hn]; simp))
  have YES := hid (fun (hn : s.pl = t.pl ∧ s.wi = t.wi ∧ s.dr = t.dr ∧ s.fl = t.fl ∧ s.co = t.co ∧ s.me = t.me ∧ s.de = t.de) => (show sameB s t = (decide (s.su = t.su) && decide (s.re = t.re)) by unfold sameB numsB; rw [decide_eq_true hn]; simp))
  clear h1 h2 h1' h2' hfin h h'
  by_cases k0 : s.pl = t.pl
  case neg =>
    have HE := hid (NO.out (by omega))
    have n0 : (s.pl != t.pl) = true := by simp [k0]
    clear k0
    go_enter Try.func44, Try.ntmps44
    go_wp2
    go_ret
    exact HF.out _ _ HE.out g0
  have n0 : (s.pl != t.pl) = false := by simp [k0]
  by_cases k1 : s.wi = t.wi
  case neg =>
    have HE := hid (NO.out (by omega))
    have n1 : (s.wi != t.wi) = true := by simp [k1]
    clear k1 k0
    go_enter Try.func44, Try.ntmps44
    go_wp2
    go_ret
    exact HF.out _ _ HE.out g0
  have n1 : (s.wi != t.wi) = false := by simp [k1]
  by_cases k2 : s.dr = t.dr
  case neg =>
    have HE := hid (NO.out (by omega))
    have n2 : (s.dr != t.dr) = true := by simp [k2]
    clear k2 k0 k1
    go_enter Try.func44, Try.ntmps44
    go_wp2
    go_ret
    exact HF.out _ _ HE.out g0
  have n2 : (s.dr != t.dr) = false := by simp [k2]
  by_cases k3 : s.fl = t.fl
  case neg =>
    have HE := hid (NO.out (by omega))
    have n3 : (s.fl != t.fl) = true := by simp [k3]
    clear k3 k0 k1 k2
    go_enter Try.func44, Try.ntmps44
    go_wp2
    go_ret
    exact HF.out _ _ HE.out g0
  have n3 : (s.fl != t.fl) = false := by simp [k3]
  by_cases k4 : s.co = t.co
  case neg =>
    have HE := hid (NO.out (by omega))
    have n4 : (s.co != t.co) = true := by simp [k4]
    clear k4 k0 k1 k2 k3
    go_enter Try.func44, Try.ntmps44
    go_wp2
    go_ret
    exact HF.out _ _ HE.out g0
  have n4 : (s.co != t.co) = false := by simp [k4]
  by_cases k5 : s.me = t.me
  case neg =>
    have HE := hid (NO.out (by omega))
    have n5 : (s.me != t.me) = true := by simp [k5]
    clear k5 k0 k1 k2 k3 k4
    go_enter Try.func44, Try.ntmps44
    go_wp2
    go_ret
    exact HF.out _ _ HE.out g0
  have n5 : (s.me != t.me) = false := by simp [k5]
  by_cases k6 : s.de = t.de
  case neg =>
    have HE := hid (NO.out (by omega))
    have n6 : (s.de != t.de) = true := by simp [k6]
    clear k6 k0 k1 k2 k3 k4 k5
    go_enter Try.func44, Try.ntmps44
    go_wp2
    go_ret
    exact HF.out _ _ HE.out g0
  have n6 : (s.de != t.de) = false := by simp [k6]
  have HE := hid (YES.out ⟨k0, k1, k2, k3, k4, k5, k6⟩)
  clear k0 k1 k2 k3 k4 k5 k6
  go_enter Try.func44, Try.ntmps44
  go_wp2_with fail
  refine (E1.out _ g0).mono ?_
  rintro e w1 ⟨rfl, n1, rfl⟩
  cases q1 : decide (s.su = t.su)
  · have HE2 := hid (show sameB s t = false by rw [HE.out, q1]; rfl)
    go_wp2
    go_ret
    exact HF.out _ _ HE2.out (g0.drewN _)
  · have HE2 := hid (show sameB s t = decide (s.re = t.re) by rw [HE.out, q1]; rfl)
    go_wp2_with fail
    refine (E2.out _ (g0.drewN _)).mono ?_
    rintro e w1 ⟨rfl, n2, rfl⟩
    go_wp2
    go_ret
    exact HF.out _ _ HE2.out ((g0.drewN _))
end Go.Proofs.Ytjiahcfegfimmaa
