/-
  Walks of sameFaces and of the reference's checkTiles.
-/
import Derived.Test.YtjiahcfegfimmaaKnown42
import Derived.Test.YtjiahcfegfimmaaKnown11
import Derived.Test.YtjiahcfegfimmaaKnown03
import Derived.Test.YtjiahcfegfimmaaKnown13
import Derived.Deep.RegionHeld3
import Derived.Outline
namespace Go.Proofs.Ytjiahcfegfimmaa
open Go.RowKit

theorem eqFace (a c : Int) (b d : Bool) (w : World) : (Op.equalIn 10000 73 (.agg #[.int .i64 a, .bool b]) (.agg #[.int .i64 c, .bool d])).run Try.prog w = .ok (decide (a = c ∧ b = d)) w := by
  have u3 := Try.underlying3
  have ia := Try.isAgg3
  have z3 := Try.sizeOf3
  have u4 := Try.underlying4
  have ib := Try.isAgg4
  have z4 := Try.sizeOf4
  have hS : Try.prog.underlying 73 = some (.struct (Try.prog.fieldsOf 73)) := by kernel_rfl
  have hp : Try.prog.stoodInHeld 73 = false := by kernel_rfl
  rw [show (10000 : Nat) = 9999 + 1 from rfl, run_equalIn_agg w 9999 73 _ _ hS hp]
  simp only [Program.fieldsOf, Try.underlying73]
  go_simp
  by_cases h1 : a = c <;> cases b <;> cases d <;> simp [h1]
theorem sameFaces_any (v1 v2 : Value) (fs gs : List (Int × Bool)) (w : World) (h1 : IsFaces w v1 fs) (h2 : IsFaces w v2 gs) : Calls Try.prog 66 #[v1, v2] w (Says w (.bool (decide (fs = gs)))) := by
  obtain ⟨A, c, rfl, hc, hm, hr⟩ := h1
  obtain ⟨B, d, rfl, hd, hm', hs⟩ := h2
  unfold maxLen at hm hm'
  have hfin : ∀ b : Bool, decide (fs = gs) = b → ∀ n, Says w (.bool (decide (fs = gs))) (.returned (.bool b)) (w.drewN n) := fun b hb n => ⟨by rw [hb], n, rfl⟩
  have HF := hid hfin
  clear hfin
  go_enter Try.func66, Try.ntmps66
  go_wp2
  go_loopw [5] (fun i wr => ∃ k : Nat, k ≤ fs.length ∧ k ≤ gs.length ∧ i = .int .i64 (k : Int) ∧ (∀ j (h : j < fs.length) (h' : j < gs.length), j < k → fs[j] = gs[j]) ∧ ∃ n, wr = w.drewN n) (fun i _ => fs.length - (intOf i).toNat)
  case atStart => exact ⟨0, Nat.zero_le _, Nat.zero_le _, rfl, by simp, 0, rfl⟩
  case round =>
    obtain ⟨k, hk, hk', rfl, hdr, n, rfl⟩ := hrel
    have HD := hid hdr
    clear hdr
    by_cases h0 : k < fs.length
    · by_cases h0' : k < gs.length
      · obtain ⟨ad, rfl, hb, x0, x1⟩ := hr.face h0
        obtain ⟨ad', rfl, hb', y0, y1⟩ := hs.face h0'
        have i0 : (0 : Int) ≤ (k : Int) := by omega
        have i1 : (k : Int) < (fs.length : Int) := by omega
        have i2 : (k : Int) < (gs.length : Int) := by omega
        have heq := eqFace fs[k].1 gs[k].1 fs[k].2 gs[k].2
        by_cases he : fs[k] = gs[k]
        · have HE := hid he
          rw [he] at heq x0 x1
          have q : decide (gs[k].1 = gs[k].1 ∧ gs[k].2 = gs[k].2) = true := by simp
          rw [q] at heq
          clear he q
          generalize gs[k].1 = a at *
          generalize gs[k].2 = b at *
          go_wp2
          go_quiet (fail)
          go_wp2
          refine ⟨⟨k + 1, by omega, by omega, by go_num, fun j h h' hj => ?_, _, rfl⟩, by simp only [intOf]; omega⟩
          by_cases e : j = k
          · subst e; exact HE.out
          · exact HD.out j h h' (by omega)
        · have HE := hid he
          have q : decide (fs[k].1 = gs[k].1 ∧ fs[k].2 = gs[k].2) = false := decide_eq_false fun hq => he (Prod.ext hq.1 hq.2)
          rw [q] at heq
          clear he q
          generalize gs[k].1 = a at *
          generalize gs[k].2 = b at *
          generalize fs[k].1 = a' at *
          generalize fs[k].2 = b' at *
          go_wp2
          go_quiet (fail)
          go_wp2
          go_ret
          rw [World.drewN_drewN]
          exact HF.out false (decide_eq_false fun e => HE.out (by subst e; rfl)) _
      · have n1 : (fs.length == gs.length) = false := by simp; omega
        have n2 : ((fs.length : Int) == (gs.length : Int)) = false := beq_eq_false_iff_ne.2 (by omega)
        have HE := hid (show decide (fs = gs) = false from decide_eq_false fun e => by rw [e] at h0; omega)
        go_wp2
        go_ret
        exact HF.out false HE.out _
    · by_cases hl : fs.length = gs.length
      · have n1 : (fs.length == gs.length) = true := by simp [hl]
        have n2 : ((fs.length : Int) == (gs.length : Int)) = true := by simp [hl]
        have HE := hid (show decide (fs = gs) = true from decide_eq_true (List.ext_getElem hl fun j h h' => HD.out j h h' (by omega)))
        clear hl
        go_wp2
        go_ret
        exact HF.out true HE.out _
      · have n1 : (fs.length == gs.length) = false := by simp; omega
        have n2 : ((fs.length : Int) == (gs.length : Int)) = false := beq_eq_false_iff_ne.2 (by omega)
        have HE := hid (show decide (fs = gs) = false from decide_eq_false fun e => hl (by rw [e]))
        clear hl
        go_wp2
        go_ret
        exact HF.out false HE.out _

def RangeZ (ts : List Int) : Prop := ∀ t ∈ ts, -9223372036854775808 ≤ t ∧ t ≤ 9223372036854775807
theorem kind_neg {s : TSet} (e : chkErr s = 0) (t : Int) : decide (kindI s t < 0) = decide (t < 0 ∨ sizeI s ≤ t) := by
  have V := valid_of e
  by_cases hq : t < 0 ∨ sizeI s ≤ t
  · rw [decide_eq_true hq, decide_eq_true]; unfold kindI; rw [if_pos hq]; omega
  · rw [decide_eq_false hq, decide_eq_false]
    unfold kindI
    rw [if_neg hq]
    have := V.plain
    have h2 := V.co
    split
    · omega
    · have := Int.ediv_nonneg (show 0 ≤ t by omega) (show 0 ≤ s.co by omega); omega
set_option maxRecDepth 100000 in
set_option maxHeartbeats 4000000 in
theorem checkTiles_any (v v2 : Value) (s : TSet) (ts : List Int) (w : World) (h : IsSet w v s) (h2 : IsInts w v2 ts) (hz : RangeZ ts) (e : chkErr s = 0) : Calls Try.prog 99 #[v, v2] w (Gives w (.int .i64 (dupE (sizeI s) [] ts))) := by
  have hfin : ∀ r wf, dupE (sizeI s) [] ts = r → Grow w wf → Gives w (.int .i64 (dupE (sizeI s) [] ts)) (.returned (.int .i64 r)) wf := fun r wf h hg => ⟨by rw [h], hg⟩
  have HF := hid hfin
  have KD := hid (fun W (hg : Grow w W) t (ht : -9223372036854775808 ≤ t ∧ t ≤ 9223372036854775807) => rKind_any v s t W (h.grow hg) ht.1 ht.2)
  have HZ := hid hz
  have HE0 := hid e
  have H2 := hid h2
  clear hfin hz e
  obtain ⟨A2, e2, rfl, q1, q2, rT⟩ := h2
  unfold maxLen at q2
  have HRT := hid rT
  clear rT
  have HI := hid h
  obtain ⟨A, c, B, d, rfl, h1, h2⟩ := h.open_
  obtain ⟨_, _, e1, c1, m1, r1⟩ := h1
  obtain ⟨_, _, e2, d1, m2, r2⟩ := h2
  injection e1 with e1 _ e1'
  injection e2 with e2 _ e2'
  subst e1 e1' e2 e2'
  unfold maxLen at m1 m2
  have HG0 := hid (show Grow w (w.alloc (.cells #[.int .i64 s.pl, .slice A s.su.length c, .int .i64 s.wi, .int .i64 s.dr, .int .i64 s.fl, .int .i64 s.co, .int .i64 s.me, .int .i64 s.de, .slice B s.re.length d] 24)) from (Grow.refl w).alloc _)
  have HB0 := hid (show Blk (w.alloc (.cells #[.int .i64 s.pl, .slice A s.su.length c, .int .i64 s.wi, .int .i64 s.dr, .int .i64 s.fl, .int .i64 s.co, .int .i64 s.me, .int .i64 s.de, .slice B s.re.length d] 24)) w.heap.size 24 (setVals s (.slice A s.su.length c) (.slice B s.re.length d)) from heap_alloc_new w _)
  clear h
  go_enter Try.func99, Try.ntmps99
  go_wp2
  generalize w.alloc (.cells #[.int .i64 s.pl, .slice A s.su.length c, .int .i64 s.wi, .int .i64 s.dr, .int .i64 s.fl, .int .i64 s.co, .int .i64 s.me, .int .i64 s.de, .slice B s.re.length d] 24) = wz at *
  go_loopw [5] (fun i wr => ∃ k : Nat, k ≤ ts.length ∧ i = .int .i64 (k : Int) ∧ dupE (sizeI s) [] ts = dupE (sizeI s) (ts.take k) (ts.drop k) ∧ Grow wz wr) (fun i _ => ts.length - (intOf i).toNat)
  case atStart => exact ⟨0, Nat.zero_le _, rfl, by simp, Grow.refl _⟩
  case round =>
    obtain ⟨k, hk, rfl, her, hgr⟩ := hrel
    have HER := hid her
    have HG := hid (HG0.out.trans hgr)
    clear her
    by_cases hlt : k < ts.length
    · obtain ⟨ad, rfl, hb, x0⟩ := (HRT.out.grow HG.out).int hlt
      have i0 : (0 : Int) ≤ (k : Int) := by omega
      have i1 : (k : Int) < (ts.length : Int) := by omega
      have i2 : (k : Int) ≤ (e2 : Int) := by omega
      have KS := hid (fun W (hg : Grow wr W) => And.intro hg (And.intro (hg.cell_some x0) (set_cells ((HB0.out.grow hgr).grow hg))))
      have HE1 := hid (HER.out.trans (dupE_drop hlt))
      have KK := hid (fun W (hg : Grow w W) => KD.out W hg ts[k] (HZ.out _ (List.getElem_mem hlt)))
      have HN := hid (kind_neg HE0.out ts[k])
      have HT := hid (show ts.take (k + 1) = ts.take k ++ [ts[k]] from List.take_succ_eq_append_getElem hlt)
      obtain ⟨s3, _⟩ := first_any 22 Try.underlying22 (kz := (k : Int)) (H2.out.grow (HG.out)) (show k ≤ ts.length by omega) rfl
      have HSV := hid (fun W (hg : Grow w W) => Has_any _ (ts.take k) ts[k] W (ints_first (H2.out.grow hg) (show k ≤ ts.length by omega)))
      clear x0
      generalize ts[k] = t at *
      obtain ⟨z, hz⟩ : ∃ z, z = kindI s t := ⟨_, rfl⟩
      rw [← hz] at KK HN
      clear hz
      go_wp2
      go_region_held3 (fun W => Grow wr W ∧ W.cell? (ad.add k) = some (.int .i64 t) ∧ W.cell? ⟨w.heap.size, 0, none⟩ = some (.int .i64 s.pl) ∧ W.cell? ⟨w.heap.size, 1, none⟩ = some (.slice A s.su.length c) ∧ W.cell? ⟨w.heap.size, 2, none⟩ = some (.int .i64 s.wi) ∧ W.cell? ⟨w.heap.size, 3, none⟩ = some (.int .i64 s.dr) ∧ W.cell? ⟨w.heap.size, 4, none⟩ = some (.int .i64 s.fl) ∧ W.cell? ⟨w.heap.size, 5, none⟩ = some (.int .i64 s.co) ∧ W.cell? ⟨w.heap.size, 6, none⟩ = some (.int .i64 s.me) ∧ W.cell? ⟨w.heap.size, 7, none⟩ = some (.int .i64 s.de) ∧ W.cell? ⟨w.heap.size, 8, none⟩ = some (.slice B s.re.length d))
        (exact KS.out _ (by first | assumption | exact (Grow.refl _).drew))
        ((go_at_call 56; have hS := (‹Grow wr _ ∧ _›).1; refine (KK.out _ (HG.out.trans hS)).mono ?_; rintro e w3 ⟨rfl, hg3⟩; have hk3 := hS.trans hg3))
      all_goals
        obtain ⟨-, x0, -⟩ := KS.out _ hk3
        by_cases h4 : z < 0
        · have HE := hid (HE1.out.trans (if_pos (of_decide_eq_true (by rw [← HN.out, decide_eq_true h4]))))
          go_wp2
          go_ret
          exact HF.out _ _ HE.out (HG.out.trans hk3)
        · have HE2 := hid (HE1.out.trans (if_neg (of_decide_eq_false (by rw [← HN.out, decide_eq_false h4]))))
          have HSK := HSV.out
          by_cases hm : t ∈ ts.take k
          · have HE := hid (HE2.out.trans (if_pos hm))
            rw [decide_eq_true hm] at HSK
            have HS := hid HSK
            clear hm HSK
            go_wp2
            go_quiet ((go_at_call 97; exact q_same (HS.out _ ((HG.out.trans hk3).drewN _))))
            go_wp2
            go_ret
            exact HF.out _ _ HE.out ((HG.out.trans hk3).drewN _)
          · have HE := hid (HE2.out.trans (if_neg hm))
            rw [decide_eq_false hm] at HSK
            have HS := hid HSK
            clear hm HSK
            go_wp2
            go_quiet ((go_at_call 97; exact q_same (HS.out _ ((HG.out.trans hk3).drewN _))))
            go_wp2
            exact ⟨⟨k + 1, by omega, by go_num, by rw [HT.out]; exact HE.out, (hgr.trans hk3).drewN _⟩, by simp only [intOf]; omega⟩
    · have HE := hid (show dupE (sizeI s) [] ts = 0 by rw [HER.out, List.drop_eq_nil_of_le (by omega)]; rfl)
      go_wp2
      go_ret
      exact HF.out _ _ HE.out HG.out
end Go.Proofs.Ytjiahcfegfimmaa
