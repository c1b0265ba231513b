/-
  Walks of the reference's letter, checkFaces and Text.
-/
import Derived.Test.YtjiahcfegfimmaaNotes30
import Derived.Test.YtjiahcfegfimmaaNotes36
import Derived.Test.YtjiahcfegfimmaaNotes24
import Derived.Laws.Concat
import Derived.Deep.RegionHeld3
import Derived.Outline
namespace Go.Proofs.Ytjiahcfegfimmaa
open Go.RowKit

theorem place_range (s : TSet) (k : Int) : -4 ≤ (placeP s k).1 ∧ (placeP s k).1 ≤ 2 ∧ 0 ≤ (placeP s k).2 ∧ (placeP s k).2 ≤ 8 := by
  rcases place_two s k with h | ⟨su, r, h, h1, h2, h3, h4, _⟩
  · rw [h]; decide
  · rw [h]; exact ⟨by simp only; omega, h2, h3, h4⟩
def letOf (s : TSet) (f : FaceZ) : Int := letN (placeP s f.1).1 f.2
theorem rletter_any (v : Value) (s : TSet) (f : FaceZ) (w : World) (h : IsSet w v s) : Calls Try.prog 76 #[v, .agg #[.int .i64 f.1, .bool f.2]] w (Gives w (.int .i64 (letOf s f))) := by
  have hfin : ∀ r wf, letOf s f = r → Grow w wf → Gives w (.int .i64 (letOf s f)) (.returned (.int .i64 r)) wf := fun r wf h hg => ⟨by rw [h], hg⟩
  have HF := hid hfin
  have PL := fun W (hg : Grow w W) => rPlace_any v s f.1 W (h.grow hg)
  have pr := place_range s f.1
  clear hfin
  have HI := hid h
  obtain ⟨A, c, B, d, rfl, h1, h2⟩ := h.open_
  obtain ⟨_, _, e1, c1, m1, r1⟩ := h1
  obtain ⟨_, _, e2, d1, m2, r2⟩ := h2
  injection e1 with e1 _ e1'
  injection e2 with e2 _ e2'
  subst e1 e1' e2 e2'
  unfold maxLen at m1 m2
  have HG0 := hid (show Grow w (w.alloc (.cells #[.int .i64 s.pl, .slice A s.su.length c, .int .i64 s.wi, .int .i64 s.dr, .int .i64 s.fl, .int .i64 s.co, .int .i64 s.me, .int .i64 s.de, .slice B s.re.length d] 24)) from (Grow.refl w).alloc _)
  have HB0 := hid (show Blk (w.alloc (.cells #[.int .i64 s.pl, .slice A s.su.length c, .int .i64 s.wi, .int .i64 s.dr, .int .i64 s.fl, .int .i64 s.co, .int .i64 s.me, .int .i64 s.de, .slice B s.re.length d] 24)) w.heap.size 24 (setVals s (.slice A s.su.length c) (.slice B s.re.length d)) from heap_alloc_new w _)
  clear h
  obtain ⟨kd, rd⟩ := f
  have HL := hid (show letOf s (kd, rd) = letN (placeP s kd).1 rd from rfl)
  simp only at PL pr
  generalize (placeP s kd).1 = su at *
  generalize (placeP s kd).2 = r at *
  have PL := hid PL
  have gF : Grow w ((w.alloc (.cells #[.int .i64 s.pl, .slice A s.su.length c, .int .i64 s.wi, .int .i64 s.dr, .int .i64 s.fl, .int .i64 s.co, .int .i64 s.me, .int .i64 s.de, .slice B s.re.length d] 24)).alloc (.cells #[.int .i64 kd, .bool rd] 73)) := HG0.out.alloc _
  have bF : Blk ((w.alloc (.cells #[.int .i64 s.pl, .slice A s.su.length c, .int .i64 s.wi, .int .i64 s.dr, .int .i64 s.fl, .int .i64 s.co, .int .i64 s.me, .int .i64 s.de, .slice B s.re.length d] 24)).alloc (.cells #[.int .i64 kd, .bool rd] 73)) (w.heap.size + 1) 73 [.int .i64 kd, .bool rd] := Blk.new_at (by simp)
  have BF := hid (And.intro gF bF)
  clear gF bF
  cases rd
  · by_cases hs : su < 0
    · have HE := hid (show letOf s (kd, false) = 2 - su by rw [HL.out]; unfold letN; simp [hs])
      go_enter Try.func76, Try.ntmps76
      go_wp2_with (go_at_call 54; refine (PL.out _ BF.out.1).mono ?_; rintro e w1 ⟨rfl, hg1⟩; have hg := BF.out.1.trans hg1; have f0 := (BF.out.2.grow hg1).cell 0; have f1 := (BF.out.2.grow hg1).cell 1; simp only [List.getElem?_cons_zero, List.getElem?_cons_succ] at f0 f1)
      go_ret
      exact HF.out _ _ HE.out hg
    · have HE := hid (show letOf s (kd, false) = su by rw [HL.out]; unfold letN; simp [hs])
      go_enter Try.func76, Try.ntmps76
      go_wp2_with (go_at_call 54; refine (PL.out _ BF.out.1).mono ?_; rintro e w1 ⟨rfl, hg1⟩; have hg := BF.out.1.trans hg1; have f0 := (BF.out.2.grow hg1).cell 0; have f1 := (BF.out.2.grow hg1).cell 1; simp only [List.getElem?_cons_zero, List.getElem?_cons_succ] at f0 f1)
      go_ret
      exact HF.out _ _ HE.out hg
  · by_cases hs : su < 0
    · have HE := hid (show letOf s (kd, true) = 2 - su + 6 by rw [HL.out]; unfold letN; simp [hs])
      go_enter Try.func76, Try.ntmps76
      go_wp2_with (go_at_call 54; refine (PL.out _ BF.out.1).mono ?_; rintro e w1 ⟨rfl, hg1⟩; have hg := BF.out.1.trans hg1; have f0 := (BF.out.2.grow hg1).cell 0; have f1 := (BF.out.2.grow hg1).cell 1; simp only [List.getElem?_cons_zero, List.getElem?_cons_succ] at f0 f1)
      go_ret
      exact HF.out _ _ HE.out hg
    · have HE := hid (show letOf s (kd, true) = su + 6 by rw [HL.out]; unfold letN; simp [hs])
      go_enter Try.func76, Try.ntmps76
      go_wp2_with (go_at_call 54; refine (PL.out _ BF.out.1).mono ?_; rintro e w1 ⟨rfl, hg1⟩; have hg := BF.out.1.trans hg1; have f0 := (BF.out.2.grow hg1).cell 0; have f1 := (BF.out.2.grow hg1).cell 1; simp only [List.getElem?_cons_zero, List.getElem?_cons_succ] at f0 f1)
      go_ret
      exact HF.out _ _ HE.out hg

set_option maxRecDepth 100000 in
set_option maxHeartbeats 4000000 in
theorem checkFaces_any (v vl : Value) (s : TSet) (fs : List FaceZ) (w : World) (h : IsSet w v s) (hf : IsFaces w vl fs) : Calls Try.prog 75 #[v, vl] w (Gives w (.int .i64 (facesErr s fs))) := by
  have hfin : ∀ r wf, facesErr s fs = r → Grow w wf → Gives w (.int .i64 (facesErr s fs)) (.returned (.int .i64 r)) wf := fun r wf h hg => ⟨by rw [h], hg⟩
  have HF := hid hfin
  have PL := hid (fun W (hg : Grow w W) k => rPlace_any v s k W (h.grow hg))
  clear hfin
  obtain ⟨AF, cF, rfl, f1, f2, rF⟩ := hf
  unfold maxLen at f2
  have HRF := hid rF
  clear rF
  have HI := hid h
  obtain ⟨A, c, B, d, rfl, h1, h2⟩ := h.open_
  obtain ⟨_, _, e1, c1, m1, r1⟩ := h1
  obtain ⟨_, _, e2, d1, m2, r2⟩ := h2
  injection e1 with e1 _ e1'
  injection e2 with e2 _ e2'
  subst e1 e1' e2 e2'
  unfold maxLen at m1 m2
  have HG0 := hid (show Grow w (w.alloc (.cells #[.int .i64 s.pl, .slice A s.su.length c, .int .i64 s.wi, .int .i64 s.dr, .int .i64 s.fl, .int .i64 s.co, .int .i64 s.me, .int .i64 s.de, .slice B s.re.length d] 24)) from (Grow.refl w).alloc _)
  have HB0 := hid (show Blk (w.alloc (.cells #[.int .i64 s.pl, .slice A s.su.length c, .int .i64 s.wi, .int .i64 s.dr, .int .i64 s.fl, .int .i64 s.co, .int .i64 s.me, .int .i64 s.de, .slice B s.re.length d] 24)) w.heap.size 24 (setVals s (.slice A s.su.length c) (.slice B s.re.length d)) from heap_alloc_new w _)
  clear h
  have HS := hid (fun W (hg : Grow w W) k => Has_any (.slice B s.re.length d) s.re k W ⟨B, d, rfl, d1, by unfold maxLen; omega, r2.grow hg⟩)
  go_enter Try.func75, Try.ntmps75
  go_wp2
  generalize w.alloc (.cells #[.int .i64 s.pl, .slice A s.su.length c, .int .i64 s.wi, .int .i64 s.dr, .int .i64 s.fl, .int .i64 s.co, .int .i64 s.me, .int .i64 s.de, .slice B s.re.length d] 24) = wz at *
  go_loopw [5] (fun i wr => ∃ k : Nat, k ≤ fs.length ∧ i = .int .i64 (k : Int) ∧ facesErr s fs = facesErr s (fs.drop k) ∧ Grow wz wr) (fun i _ => fs.length - (intOf i).toNat)
  case atStart => exact ⟨0, Nat.zero_le _, rfl, by simp, Grow.refl _⟩
  case round =>
    obtain ⟨k, hk, rfl, her, hgr⟩ := hrel
    have HER := hid her
    have HG := hid (HG0.out.trans hgr)
    clear her
    by_cases hlt : k < fs.length
    · obtain ⟨ad, rfl, hb, x0, x1⟩ := (HRF.out.grow HG.out).face hlt
      have i0 : (0 : Int) ≤ (k : Int) := by omega
      have i1 : (k : Int) < (fs.length : Int) := by omega
      have KS := hid (fun W (hg : Grow wr W) => And.intro hg (And.intro (And.intro (hg.cell_some x0) (hg.cell_some x1)) (set_cells ((HB0.out.grow hgr).grow hg))))
      have HE1 := hid (HER.out.trans (facesErr_drop hlt))
      have PK := hid (fun W (hg : Grow w W) => PL.out W hg fs[k].1)
      have HK := hid (fun W (hg : Grow w W) => HS.out W hg fs[k].1)
      have hr := place_range s fs[k].1
      clear x0 x1
      generalize hp1 : (placeP s fs[k].1).1 = su at *
      generalize hp2 : (placeP s fs[k].1).2 = r at *
      clear hp1 hp2
      generalize fs[k].1 = kd at *
      generalize fs[k].2 = rd at *
      go_wp2
      go_region_held3 (fun W => Grow wr W ∧ (W.cell? (ad.add (k * 2)) = some (.int .i64 kd) ∧ W.cell? ⟨(ad.add (k * 2)).block, (ad.add (k * 2)).off + 1, none⟩ = some (.bool rd)) ∧ W.cell? ⟨w.heap.size, 0, none⟩ = some (.int .i64 s.pl) ∧ W.cell? ⟨w.heap.size, 1, none⟩ = some (.slice A s.su.length c) ∧ W.cell? ⟨w.heap.size, 2, none⟩ = some (.int .i64 s.wi) ∧ W.cell? ⟨w.heap.size, 3, none⟩ = some (.int .i64 s.dr) ∧ W.cell? ⟨w.heap.size, 4, none⟩ = some (.int .i64 s.fl) ∧ W.cell? ⟨w.heap.size, 5, none⟩ = some (.int .i64 s.co) ∧ W.cell? ⟨w.heap.size, 6, none⟩ = some (.int .i64 s.me) ∧ W.cell? ⟨w.heap.size, 7, none⟩ = some (.int .i64 s.de) ∧ W.cell? ⟨w.heap.size, 8, none⟩ = some (.slice B s.re.length d))
        (exact KS.out _ (by first | assumption | exact (Grow.refl _).drew))
        ((go_at_call 54; have hS := (‹Grow wr _ ∧ _›).1; refine (PK.out _ (HG.out.trans hS)).mono ?_; rintro e w2 ⟨rfl, hg2⟩; have hk2 := hS.trans hg2))
      all_goals
        obtain ⟨-, ⟨x0, x1⟩, c0, c1, c2, c3, c4, c5, c6, c7, c8⟩ := KS.out _ hk2
        by_cases h4 : su = -4
        · have HE := hid (HE1.out.trans (if_pos h4))
          have h4' : (su == -4) = true := by simp [h4]
          clear h4
          go_wp2
          go_ret
          exact HF.out _ _ HE.out (HG.out.trans hk2)
        · have HE2 := hid (HE1.out.trans (if_neg h4))
          have h4' : (su == -4) = false := by simp [h4]
          clear h4
          cases rd
          · have HE := hid (HE2.out.trans (if_neg (fun h => by cases h.1)))
            go_wp2
            go_quiet (fail)
            go_wp2
            exact ⟨⟨k + 1, by omega, by go_num, HE.out, (hgr.trans hk2).drewN _⟩, by simp only [intOf]; omega⟩
          · have HKK := HK.out
            by_cases hm : kd ∈ s.re
            · have HE := hid (HE2.out.trans (if_neg (fun h => h.2 hm)))
              rw [decide_eq_true hm] at HKK
              have HK3 := hid HKK
              clear HKK hm
              go_wp2
              go_quiet ((go_at_call 97; exact q_same (HK3.out _ ((HG.out.trans hk2).drewN _))))
              go_wp2
              exact ⟨⟨k + 1, by omega, by go_num, HE.out, (hgr.trans hk2).drewN _⟩, by simp only [intOf]; omega⟩
            · have HE := hid (HE2.out.trans (if_pos ⟨rfl, hm⟩))
              rw [decide_eq_false hm] at HKK
              have HK3 := hid HKK
              clear HKK hm
              go_wp2
              go_quiet ((go_at_call 97; exact q_same (HK3.out _ ((HG.out.trans hk2).drewN _))))
              go_wp2
              go_ret
              exact HF.out _ _ HE.out ((HG.out.trans hk2).drewN _)
    · have HE := hid (show facesErr s fs = 0 by rw [HER.out, List.drop_eq_nil_of_le (by omega)]; rfl)
      go_wp2
      go_ret
      exact HF.out _ _ HE.out HG.out
theorem add_str (a b : List Int) (ha : a.length ≤ 10000000) (hb : b.length ≤ 10000000) : ∀ W : World, (Op.stringOp .add (strOfNums a) (strOfNums b)).run Try.prog W = .ok (.string (strOfNums (a ++ b))) W := fun W => by
  have h := run_string_add_sum (P := Try.prog) W (strOfNums a) (strOfNums b) (by rw [strOfNums_size, strOfNums_size]; omega)
  rw [h, str_append]
set_option maxRecDepth 100000 in
theorem conv_one (W : World) (d : Int) : (convert 77 9 (.slice (some ⟨W.heap.size, 0, none⟩) 1 1)).run Try.prog (W.alloc (.cells #[.int .u8 d] 5)) = .ok (.string (strOfNums [d])) (W.alloc (.cells #[.int .u8 d] 5)) := by
  have h := OwnV.lit (w0 := W) (e := 5) W [.int .u8 d] (Grow.refl _) (by simp)
  exact run_str_own (zs := [d]) h
set_option maxRecDepth 100000 in
theorem let_slice {n : Int} (h0 : 0 ≤ n) (h1 : n < 11) : ∀ W : World, (Instr.slice 9 (.string ⟨#[109, 112, 115, 119, 100, 102, 77, 80, 83, 87, 68]⟩) (some (.int .i64 n)) (some (.int .i64 (n + 1))) none).run Try.prog W = .ok (.string (strOfNums [letB n])) W := by
  rcases (show n = 0 ∨ n = 1 ∨ n = 2 ∨ n = 3 ∨ n = 4 ∨ n = 5 ∨ n = 6 ∨ n = 7 ∨ n = 8 ∨ n = 9 ∨ n = 10 by omega) with rfl | rfl | rfl | rfl | rfl | rfl | rfl | rfl | rfl | rfl | rfl
  all_goals exact fun W => by kernel_rfl
theorem markF_let (s : TSet) (f : FaceZ) : (markF s f).1 = letB (letOf s f) := rfl
theorem letOf_bound {s : TSet} {f : FaceZ} (e : chkErr s = 0) (h4 : (placeP s f.1).1 ≠ -4) (hr : f.2 = true → f.1 ∈ s.re) : 0 ≤ letOf s f ∧ letOf s f < 11 := by
  unfold letOf
  rcases place_two s f.1 with h | ⟨su, r, h, h1, h2, h3, h5, _, h6⟩
  · rw [h] at h4; exact absurd rfl h4
  · rw [h]
    simp only
    unfold letN
    by_cases hc : f.2 = true
    · have := red_plain e (hr hc)
      have : su ≠ -3 := fun e => by have := h6 e; omega
      rw [if_pos hc]
      split <;> omega
    · rw [if_neg hc]
      split <;> omega
theorem facesErr_ok {s : TSet} {l : List FaceZ} (h : facesErr s l = 0) : ∀ f ∈ l, (placeP s f.1).1 ≠ -4 ∧ (f.2 = true → f.1 ∈ s.re) := by
  induction l with
  | nil => simp
  | cons x l ih =>
    unfold facesErr at h
    by_cases h1 : (placeP s x.1).1 = -4
    · rw [if_pos h1] at h; omega
    rw [if_neg h1] at h
    by_cases h2 : x.2 = true ∧ x.1 ∉ s.re
    · rw [if_pos h2] at h; omega
    rw [if_neg h2] at h
    intro f hf
    rcases List.mem_cons.1 hf with rfl | hf
    · exact ⟨h1, fun hc => Classical.byContradiction fun hm => h2 ⟨hc, hm⟩⟩
    · exact ih h f hf

set_option maxRecDepth 100000 in
set_option maxHeartbeats 4000000 in
theorem rText_any (v vl : Value) (s : TSet) (fs : List FaceZ) (w : World) (h : IsSet w v s) (hf : IsFaces w vl fs) (hn : fs.length ≤ 1000000) :
    Calls Try.prog 20 #[v, vl] w (Gives w (.tuple #[.string (textV s fs), .int .i64 (textErr s fs)])) := by
  have hfin : ∀ (x : ByteArray) (r : Int) wf, textErr s fs = r → textV s fs = x → Grow w wf → Gives w (.tuple #[.string (textV s fs), .int .i64 (textErr s fs)]) (.returned (.tuple #[.string x, .int .i64 r])) wf := fun x r wf h hx hg => ⟨by rw [h, hx], hg⟩
  have HF := hid hfin
  have CH := fun W (hg : Grow w W) => rCheck_any v s W (h.grow hg)
  have CF := fun W (hg : Grow w W) => checkFaces_any v vl s fs W (h.grow hg) (hf.grow hg)
  have PL := hid (fun W (hg : Grow w W) k => rPlace_any v s k W (h.grow hg))
  have LT := hid (fun W (hg : Grow w W) f => rletter_any v s f W (h.grow hg))
  clear hfin
  obtain ⟨AF, cF, rfl, f1, f2, rF⟩ := hf
  unfold maxLen at f2
  have HRF := hid rF
  clear rF
  have HI := hid h
  obtain ⟨A, c, B, d, rfl, h1, h2⟩ := h.open_
  obtain ⟨_, _, e1, c1, m1, r1⟩ := h1
  obtain ⟨_, _, e2, d1, m2, r2⟩ := h2
  injection e1 with e1 _ e1'
  injection e2 with e2 _ e2'
  subst e1 e1' e2 e2'
  unfold maxLen at m1 m2
  have HG0 := hid (show Grow w (w.alloc (.cells #[.int .i64 s.pl, .slice A s.su.length c, .int .i64 s.wi, .int .i64 s.dr, .int .i64 s.fl, .int .i64 s.co, .int .i64 s.me, .int .i64 s.de, .slice B s.re.length d] 24)) from (Grow.refl w).alloc _)
  have HB0 := hid (show Blk (w.alloc (.cells #[.int .i64 s.pl, .slice A s.su.length c, .int .i64 s.wi, .int .i64 s.dr, .int .i64 s.fl, .int .i64 s.co, .int .i64 s.me, .int .i64 s.de, .slice B s.re.length d] 24)) w.heap.size 24 (setVals s (.slice A s.su.length c) (.slice B s.re.length d)) from heap_alloc_new w _)
  clear h
  by_cases e : chkErr s = 0
  · rw [e] at CH
    have CH := hid CH
    have HE0 := hid e
    have HTE := hid (show textErr s fs = facesErr s fs by unfold textErr; rw [if_neg (by omega)])
    by_cases hfe : facesErr s fs = 0
    · rw [hfe] at CF
      have CF := hid CF
      have HFE := hid hfe
      have OKF := hid (fun (f : FaceZ) hf => (facesErr_ok hfe f hf))
      have HE := hid (HTE.out.trans hfe)
      clear hfe e
      go_enter Try.func20, Try.ntmps20
      go_wp2_with (first
        | (go_at_call 39; refine (CH.out _ HG0.out).mono ?_; rintro e w1 ⟨rfl, hg1⟩; have hg := HG0.out.trans hg1; obtain ⟨c0, c1, c2, c3, c4, c5, c6, c7, c8⟩ := set_cells (HB0.out.grow hg1))
        | (go_at_call 75; refine (CF.out _ hg).mono ?_; rintro e w2 ⟨rfl, hg2⟩; have hgg := hg.trans hg2; have hB2 := (HB0.out.grow hg1).grow hg2))
      have HB2 := hid hB2
      have HG2 := hid hgg
      clear hB2 hgg hg hg1 hg2 c0 c1 c2 c3 c4 c5 c6 c7 c8
      go_loopw [7, 8] (fun out i wr => ∃ (k : Nat) (o : List Int), k ≤ fs.length ∧ i = .int .i64 (k : Int) ∧ out = .string (strOfNums o) ∧ o ++ writeB ((fs.drop k).map (markF s)) = textB s fs ∧ o.length ≤ 2 * k ∧ Grow w2 wr) (fun _ i _ => fs.length - (intOf i).toNat)
      case atStart => exact ⟨0, [], Nat.zero_le _, rfl, rfl, by simp [textB], by simp, Grow.refl _⟩
      case round =>
        obtain ⟨k, o, hk, rfl, rfl, hall, hol, hgr⟩ := hrel
        have HALL := hid hall
        have HG := hid (HG2.out.trans hgr)
        clear hall
        by_cases hlt : k < fs.length
        · obtain ⟨ad, rfl, hb, x0, x1⟩ := (HRF.out.grow HG.out).face hlt
          have i0 : (0 : Int) ≤ (k : Int) := by omega
          have i1 : (k : Int) < (fs.length : Int) := by omega
          have KS := hid (fun W (hg : Grow wr W) => And.intro hg (And.intro (And.intro (hg.cell_some x0) (hg.cell_some x1)) (set_cells ((HB2.out.grow hgr).grow hg))))
          have PK := hid (fun W (hg : Grow w W) => PL.out W hg fs[k].1)
          have LK := hid (fun W (hg : Grow w W) => LT.out W hg fs[k])
          have hr := place_range s fs[k].1
          have hof := OKF.out fs[k] (List.getElem_mem hlt)
          have hlb := letOf_bound HE0.out hof.1 hof.2
          have LS := hid (let_slice hlb.1 hlb.2)
          have A1 := hid (add_str o [49 + (placeP s fs[k].1).2] (by omega) (by simp))
          have A2 := hid (add_str (o ++ [49 + (placeP s fs[k].1).2]) [letB (letOf s fs[k])] (by simp; omega) (by simp))
          have MF := hid (show markF s fs[k] = (letB (letOf s fs[k]), 49 + (placeP s fs[k].1).2) from rfl)
          have hpl := place_range s fs[k].1
          obtain ⟨kd, rd, hfk⟩ : ∃ kd rd, fs[k] = (kd, rd) := ⟨_, _, rfl⟩
          rw [hfk] at KS PK LK LS A1 A2 MF hlb hpl
          simp only at KS PK LK LS A1 A2 MF hlb hpl
          obtain ⟨n, hn⟩ : ∃ n, n = letOf s (kd, rd) := ⟨_, rfl⟩
          rw [← hn] at LK LS A2 MF hlb
          generalize hr' : (placeP s kd).2 = r at *
          generalize hs' : (placeP s kd).1 = su at *
          clear hr' hs'
          have hfn : IntKind.i64.wrap (n + 1) = n + 1 := IntWalk.i64_in _ (by omega)
          have n0 := hlb.1
          have n1 : n < 11 := hlb.2
          have HN := hid hn
          have HFK := hid hfk
          have a1 := A1.out
          have a2 := A2.out
          have ls := LS.out
          have HAS := hid (fun (x : List Int) => List.append_assoc o [49 + r] x)
          clear x0 x1 hfk hn hof hlb hr
          by_cases hlast : k + 1 = fs.length
          · have HALL2 := hid (show o ++ [49 + r] ++ [letB n] = textB s fs ∧ fs.drop (k + 1) = [] by
              have hd : fs.drop (k + 1) = [] := List.drop_eq_nil_of_le (by omega)
              refine ⟨?_, hd⟩
              have h := HALL.out
              rw [List.drop_eq_getElem_cons hlt, List.map_cons, hd, List.map_nil, writeB_last, HFK.out, MF.out] at h
              simpa using h)
            have q1 : ((k : Int) + 1 == (fs.length : Int)) = true := by simp; omega
            have f9 : IntKind.i64.wrap ((k : Int) + 1) = (k : Int) + 1 := IntWalk.i64_in _ (by omega)
            clear hlast
            go_wp2
            go_region_held3 (fun W => Grow wr W ∧ (W.cell? (ad.add (k * 2)) = some (.int .i64 kd) ∧ W.cell? ⟨(ad.add (k * 2)).block, (ad.add (k * 2)).off + 1, none⟩ = some (.bool rd)) ∧ W.cell? ⟨w.heap.size, 0, none⟩ = some (.int .i64 s.pl) ∧ W.cell? ⟨w.heap.size, 1, none⟩ = some (.slice A s.su.length c) ∧ W.cell? ⟨w.heap.size, 2, none⟩ = some (.int .i64 s.wi) ∧ W.cell? ⟨w.heap.size, 3, none⟩ = some (.int .i64 s.dr) ∧ W.cell? ⟨w.heap.size, 4, none⟩ = some (.int .i64 s.fl) ∧ W.cell? ⟨w.heap.size, 5, none⟩ = some (.int .i64 s.co) ∧ W.cell? ⟨w.heap.size, 6, none⟩ = some (.int .i64 s.me) ∧ W.cell? ⟨w.heap.size, 7, none⟩ = some (.int .i64 s.de) ∧ W.cell? ⟨w.heap.size, 8, none⟩ = some (.slice B s.re.length d))
              (exact KS.out _ (by first | assumption | exact (Grow.refl _).drew))
              ((go_at_call 54; have hS := (‹Grow wr _ ∧ _›).1; refine (PK.out _ (HG.out.trans hS)).mono ?_; rintro e w3 ⟨rfl, hg3⟩; have hk3 := hS.trans hg3))
            all_goals
              have cv := conv_one w3 (49 + r)
              go_wp2
              clear cv
              have hk4 := hk3.alloc (.cells #[.int .u8 (49 + r)] 5)
              generalize w3.alloc (.cells #[.int .u8 (49 + r)] 5) = w4 at *
              clear hk3 hg3
              go_quiet (fail)
              go_wp2
              have hk5 := hk4.drewN nq
              generalize w4.drewN nq = w5 at *
              have K5 := hid (fun W (hg : Grow w5 W) => And.intro hg (KS.out W ((hk5).trans hg)).2)
              go_region_held3 (fun W => Grow w5 W ∧ (W.cell? (ad.add (k * 2)) = some (.int .i64 kd) ∧ W.cell? ⟨(ad.add (k * 2)).block, (ad.add (k * 2)).off + 1, none⟩ = some (.bool rd)) ∧ W.cell? ⟨w.heap.size, 0, none⟩ = some (.int .i64 s.pl) ∧ W.cell? ⟨w.heap.size, 1, none⟩ = some (.slice A s.su.length c) ∧ W.cell? ⟨w.heap.size, 2, none⟩ = some (.int .i64 s.wi) ∧ W.cell? ⟨w.heap.size, 3, none⟩ = some (.int .i64 s.dr) ∧ W.cell? ⟨w.heap.size, 4, none⟩ = some (.int .i64 s.fl) ∧ W.cell? ⟨w.heap.size, 5, none⟩ = some (.int .i64 s.co) ∧ W.cell? ⟨w.heap.size, 6, none⟩ = some (.int .i64 s.me) ∧ W.cell? ⟨w.heap.size, 7, none⟩ = some (.int .i64 s.de) ∧ W.cell? ⟨w.heap.size, 8, none⟩ = some (.slice B s.re.length d))
                (exact K5.out _ (by first | assumption | exact (Grow.refl _).drew))
                ((go_at_call 76; have hS := (‹Grow w5 _ ∧ _›).1; refine (LK.out _ (HG.out.trans ((hk5).trans hS))).mono ?_; rintro e w6 ⟨rfl, hg6⟩; have hk6 := hS.trans hg6))
              all_goals
                go_wp2
                exact ⟨⟨k + 1, o ++ [49 + r] ++ [letB n], by omega, by go_num, by simp, by rw [HALL2.out.2]; simpa [writeB] using HALL2.out.1, by simp; omega, hgr.trans ((hk5).trans hk6)⟩, by simp only [intOf]; omega⟩
          · have hlt2 : k + 1 < fs.length := by omega
            obtain ⟨ad2, e2, hb2, y0, y1⟩ := (HRF.out.grow HG.out).face hlt2
            obtain rfl := Option.some.inj e2
            have hof2 := OKF.out fs[k + 1] (List.getElem_mem hlt2)
            have hlb2 := letOf_bound HE0.out hof2.1 hof2.2
            have MF2 := hid (show markF s fs[k + 1] = (letB (letOf s fs[k + 1]), 49 + (placeP s fs[k + 1].1).2) from rfl)
            have LK2 := hid (fun W (hg : Grow w W) => LT.out W hg fs[k + 1])
            have q1 : ((k : Int) + 1 == (fs.length : Int)) = false := by simp; omega
            have f9 : IntKind.i64.wrap ((k : Int) + 1) = (k : Int) + 1 := IntWalk.i64_in _ (by omega)
            have g0 : (0 : Int) ≤ (k : Int) + 1 := by omega
            have g1 : (k : Int) + 1 < (fs.length : Int) := by omega
            have g2 : ((k : Int) + 1).toNat = k + 1 := by omega
            have HW := hid (show o ++ [49 + r] ++ (if (markF s fs[k + 1]).1 ≠ letB n then letB n :: writeB ((fs.drop (k + 1)).map (markF s)) else writeB ((fs.drop (k + 1)).map (markF s))) = textB s fs by
              have h := HALL.out
              rw [List.drop_eq_getElem_cons hlt, List.map_cons, List.drop_eq_getElem_cons hlt2, List.map_cons, writeB_more, HFK.out, MF.out] at h
              rw [← h, List.drop_eq_getElem_cons hlt2, List.map_cons]
              by_cases hq : (markF s fs[k + 1]).1 ≠ letB n
              · rw [if_pos hq, if_pos hq]; simp
              · rw [if_neg hq, if_neg hq]; simp)
            obtain ⟨kd2, rd2, hfk2⟩ : ∃ kd rd, fs[k + 1] = (kd, rd) := ⟨_, _, rfl⟩
            obtain ⟨n2, hn2⟩ : ∃ n, n = letOf s fs[k + 1] := ⟨_, rfl⟩
            rw [← hn2] at LK2 MF2 hlb2
            rw [hfk2] at LK2 y0 y1
            simp only at LK2 y0 y1
            have hm2 := congrArg Prod.fst MF2.out
            simp only at hm2
            rw [hm2] at HW
            have HLB2 := hid hlb2
            have HLB := hid (And.intro n0 n1)
            clear hlast hm2 hfk2 hn2 hof2 hlb2 e2 hb2
            by_cases hq : n2 = n
            · have q3 : (n2 != n) = false := by simp [hq]
              have HALL2 := hid (show o ++ [49 + r] ++ writeB ((fs.drop (k + 1)).map (markF s)) = textB s fs by
                have h := HW.out
                rw [if_neg (fun hh => hh (by rw [hq]))] at h; exact h)
              clear hq
              go_wp2
              go_region_held3 (fun W => Grow wr W ∧ (W.cell? (ad.add (k * 2)) = some (.int .i64 kd) ∧ W.cell? ⟨(ad.add (k * 2)).block, (ad.add (k * 2)).off + 1, none⟩ = some (.bool rd)) ∧ W.cell? ⟨w.heap.size, 0, none⟩ = some (.int .i64 s.pl) ∧ W.cell? ⟨w.heap.size, 1, none⟩ = some (.slice A s.su.length c) ∧ W.cell? ⟨w.heap.size, 2, none⟩ = some (.int .i64 s.wi) ∧ W.cell? ⟨w.heap.size, 3, none⟩ = some (.int .i64 s.dr) ∧ W.cell? ⟨w.heap.size, 4, none⟩ = some (.int .i64 s.fl) ∧ W.cell? ⟨w.heap.size, 5, none⟩ = some (.int .i64 s.co) ∧ W.cell? ⟨w.heap.size, 6, none⟩ = some (.int .i64 s.me) ∧ W.cell? ⟨w.heap.size, 7, none⟩ = some (.int .i64 s.de) ∧ W.cell? ⟨w.heap.size, 8, none⟩ = some (.slice B s.re.length d))
                (exact KS.out _ (by first | assumption | exact (Grow.refl _).drew))
                ((go_at_call 54; have hS := (‹Grow wr _ ∧ _›).1; refine (PK.out _ (HG.out.trans hS)).mono ?_; rintro e w3 ⟨rfl, hg3⟩; have hk3 := hS.trans hg3))
              all_goals
                have cv := conv_one w3 (49 + r)
                go_wp2
                clear cv
                have hk4 := hk3.alloc (.cells #[.int .u8 (49 + r)] 5)
                generalize w3.alloc (.cells #[.int .u8 (49 + r)] 5) = w4 at *
                clear hk3 hg3
                have K6 := hid (fun W (hg : Grow w4 W) => And.intro hg (And.intro (And.intro (KS.out W (hk4.trans hg)).2.1 (And.intro (((hk4.trans hg)).cell_some y0) (((hk4.trans hg)).cell_some y1))) (KS.out W (hk4.trans hg)).2.2))
                go_region_held3 (fun W => Grow w4 W ∧ ((W.cell? (ad.add (k * 2)) = some (.int .i64 kd) ∧ W.cell? ⟨(ad.add (k * 2)).block, (ad.add (k * 2)).off + 1, none⟩ = some (.bool rd)) ∧ (W.cell? (ad.add ((k + 1) * 2)) = some (.int .i64 kd2) ∧ W.cell? ⟨(ad.add ((k + 1) * 2)).block, (ad.add ((k + 1) * 2)).off + 1, none⟩ = some (.bool rd2))) ∧ W.cell? ⟨w.heap.size, 0, none⟩ = some (.int .i64 s.pl) ∧ W.cell? ⟨w.heap.size, 1, none⟩ = some (.slice A s.su.length c) ∧ W.cell? ⟨w.heap.size, 2, none⟩ = some (.int .i64 s.wi) ∧ W.cell? ⟨w.heap.size, 3, none⟩ = some (.int .i64 s.dr) ∧ W.cell? ⟨w.heap.size, 4, none⟩ = some (.int .i64 s.fl) ∧ W.cell? ⟨w.heap.size, 5, none⟩ = some (.int .i64 s.co) ∧ W.cell? ⟨w.heap.size, 6, none⟩ = some (.int .i64 s.me) ∧ W.cell? ⟨w.heap.size, 7, none⟩ = some (.int .i64 s.de) ∧ W.cell? ⟨w.heap.size, 8, none⟩ = some (.slice B s.re.length d))
                  (exact K6.out _ (by first | assumption | exact (Grow.refl _).drew))
                  (first
                    | (go_at_call_of 76 (Value.int .i64 kd2); have hS := (‹Grow w4 _ ∧ _›).1; refine (LK2.out _ (HG.out.trans (hk4.trans hS))).mono ?_; rintro e w7 ⟨rfl, hg7⟩; have hk7 := hS.trans hg7)
                    | (go_at_call 76; have hS := (‹Grow w4 _ ∧ _›).1; refine (LK.out _ (HG.out.trans (hk4.trans hS))).mono ?_; rintro e w5 ⟨rfl, hg5⟩; have hk5x := hS.trans hg5))
                all_goals
                  go_wp2
                  have hk5 := hk4.trans hk5x
                  exact ⟨⟨k + 1, o ++ [49 + r], by omega, by go_num, rfl, HALL2.out, by simp; omega, hgr.trans hk5⟩, by simp only [intOf]; omega⟩
            · have q3 : (n2 != n) = true := by simp [hq]
              have HALL2 := hid (show o ++ [49 + r] ++ [letB n] ++ writeB ((fs.drop (k + 1)).map (markF s)) = textB s fs by
                have h := HW.out
                rw [if_pos (fun hh => hq (letB_inj HLB2.out.1 HLB2.out.2 HLB.out.1 HLB.out.2 hh))] at h
                rw [← h]; simp)
              clear hq
              go_wp2
              go_region_held3 (fun W => Grow wr W ∧ (W.cell? (ad.add (k * 2)) = some (.int .i64 kd) ∧ W.cell? ⟨(ad.add (k * 2)).block, (ad.add (k * 2)).off + 1, none⟩ = some (.bool rd)) ∧ W.cell? ⟨w.heap.size, 0, none⟩ = some (.int .i64 s.pl) ∧ W.cell? ⟨w.heap.size, 1, none⟩ = some (.slice A s.su.length c) ∧ W.cell? ⟨w.heap.size, 2, none⟩ = some (.int .i64 s.wi) ∧ W.cell? ⟨w.heap.size, 3, none⟩ = some (.int .i64 s.dr) ∧ W.cell? ⟨w.heap.size, 4, none⟩ = some (.int .i64 s.fl) ∧ W.cell? ⟨w.heap.size, 5, none⟩ = some (.int .i64 s.co) ∧ W.cell? ⟨w.heap.size, 6, none⟩ = some (.int .i64 s.me) ∧ W.cell? ⟨w.heap.size, 7, none⟩ = some (.int .i64 s.de) ∧ W.cell? ⟨w.heap.size, 8, none⟩ = some (.slice B s.re.length d))
                (exact KS.out _ (by first | assumption | exact (Grow.refl _).drew))
                ((go_at_call 54; have hS := (‹Grow wr _ ∧ _›).1; refine (PK.out _ (HG.out.trans hS)).mono ?_; rintro e w3 ⟨rfl, hg3⟩; have hk3 := hS.trans hg3))
              all_goals
                have cv := conv_one w3 (49 + r)
                go_wp2
                clear cv
                have hk4 := hk3.alloc (.cells #[.int .u8 (49 + r)] 5)
                generalize w3.alloc (.cells #[.int .u8 (49 + r)] 5) = w4 at *
                clear hk3 hg3
                have K6 := hid (fun W (hg : Grow w4 W) => And.intro hg (And.intro (And.intro (KS.out W (hk4.trans hg)).2.1 (And.intro (((hk4.trans hg)).cell_some y0) (((hk4.trans hg)).cell_some y1))) (KS.out W (hk4.trans hg)).2.2))
                go_region_held3 (fun W => Grow w4 W ∧ ((W.cell? (ad.add (k * 2)) = some (.int .i64 kd) ∧ W.cell? ⟨(ad.add (k * 2)).block, (ad.add (k * 2)).off + 1, none⟩ = some (.bool rd)) ∧ (W.cell? (ad.add ((k + 1) * 2)) = some (.int .i64 kd2) ∧ W.cell? ⟨(ad.add ((k + 1) * 2)).block, (ad.add ((k + 1) * 2)).off + 1, none⟩ = some (.bool rd2))) ∧ W.cell? ⟨w.heap.size, 0, none⟩ = some (.int .i64 s.pl) ∧ W.cell? ⟨w.heap.size, 1, none⟩ = some (.slice A s.su.length c) ∧ W.cell? ⟨w.heap.size, 2, none⟩ = some (.int .i64 s.wi) ∧ W.cell? ⟨w.heap.size, 3, none⟩ = some (.int .i64 s.dr) ∧ W.cell? ⟨w.heap.size, 4, none⟩ = some (.int .i64 s.fl) ∧ W.cell? ⟨w.heap.size, 5, none⟩ = some (.int .i64 s.co) ∧ W.cell? ⟨w.heap.size, 6, none⟩ = some (.int .i64 s.me) ∧ W.cell? ⟨w.heap.size, 7, none⟩ = some (.int .i64 s.de) ∧ W.cell? ⟨w.heap.size, 8, none⟩ = some (.slice B s.re.length d))
                  (exact K6.out _ (by first | assumption | exact (Grow.refl _).drew))
                  (first
                    | (go_at_call_of 76 (Value.int .i64 kd2); have hS := (‹Grow w4 _ ∧ _›).1; refine (LK2.out _ (HG.out.trans (hk4.trans hS))).mono ?_; rintro e w7 ⟨rfl, hg7⟩; have hk7 := hS.trans hg7)
                    | (go_at_call 76; have hS := (‹Grow w4 _ ∧ _›).1; refine (LK.out _ (HG.out.trans (hk4.trans hS))).mono ?_; rintro e w5 ⟨rfl, hg5⟩; have hk5x := hS.trans hg5))
                all_goals
                  go_wp2
                  have hk5 := hk4.trans hk5x
                  have K5 := hid (fun W (hg : Grow w5 W) => And.intro hg (KS.out W ((hk5).trans hg)).2)
                  go_region_held3 (fun W => Grow w5 W ∧ (W.cell? (ad.add (k * 2)) = some (.int .i64 kd) ∧ W.cell? ⟨(ad.add (k * 2)).block, (ad.add (k * 2)).off + 1, none⟩ = some (.bool rd)) ∧ W.cell? ⟨w.heap.size, 0, none⟩ = some (.int .i64 s.pl) ∧ W.cell? ⟨w.heap.size, 1, none⟩ = some (.slice A s.su.length c) ∧ W.cell? ⟨w.heap.size, 2, none⟩ = some (.int .i64 s.wi) ∧ W.cell? ⟨w.heap.size, 3, none⟩ = some (.int .i64 s.dr) ∧ W.cell? ⟨w.heap.size, 4, none⟩ = some (.int .i64 s.fl) ∧ W.cell? ⟨w.heap.size, 5, none⟩ = some (.int .i64 s.co) ∧ W.cell? ⟨w.heap.size, 6, none⟩ = some (.int .i64 s.me) ∧ W.cell? ⟨w.heap.size, 7, none⟩ = some (.int .i64 s.de) ∧ W.cell? ⟨w.heap.size, 8, none⟩ = some (.slice B s.re.length d))
                    (exact K5.out _ (by first | assumption | exact (Grow.refl _).drew))
                    ((go_at_call 76; have hS := (‹Grow w5 _ ∧ _›).1; refine (LK.out _ (HG.out.trans ((hk5).trans hS))).mono ?_; rintro e w6 ⟨rfl, hg6⟩; have hk6 := hS.trans hg6))
                  all_goals
                    go_wp2
                    exact ⟨⟨k + 1, o ++ [49 + r] ++ [letB n], by omega, by go_num, by simp, HALL2.out, by simp; omega, hgr.trans ((hk5).trans hk6)⟩, by simp only [intOf]; omega⟩
        · have HE2 := hid (show textV s fs = strOfNums o by
            unfold textV
            rw [if_pos HE.out, ← HALL.out, List.drop_eq_nil_of_le (by omega)]
            simp [writeB])
          go_wp2
          go_ret2
          exact HF.out _ _ _ HE.out HE2.out HG.out
    · have HE := hid HTE.out
      have HE2 := hid (show textV s fs = ⟨#[]⟩ by unfold textV; rw [if_neg (by rw [HE.out]; exact hfe)])
      have ne : (facesErr s fs != 0) = true := by simp [hfe]
      have CF := hid CF
      clear hfe e
      generalize facesErr s fs = n at *
      go_enter Try.func20, Try.ntmps20
      go_wp2_with (first
        | (go_at_call 39; refine (CH.out _ HG0.out).mono ?_; rintro e w1 ⟨rfl, hg1⟩; have hg := HG0.out.trans hg1; obtain ⟨c0, c1, c2, c3, c4, c5, c6, c7, c8⟩ := set_cells (HB0.out.grow hg1))
        | (go_at_call 75; refine (CF.out _ hg).mono ?_; rintro e w2 ⟨rfl, hg2⟩; have hgg := hg.trans hg2))
      go_ret2
      exact HF.out _ _ _ HE.out HE2.out hgg
  · have HE := hid (show textErr s fs = chkErr s by unfold textErr; rw [if_pos e])
    have HE2 := hid (show textV s fs = ⟨#[]⟩ by unfold textV; rw [if_neg]; rw [HE.out]; exact e)
    have ne : (chkErr s != 0) = true := by simp [e]
    have ne2 : (chkErr s == 0) = false := by simp [e]
    have CH := hid CH
    clear e CF
    generalize chkErr s = n at *
    go_enter Try.func20, Try.ntmps20
    go_wp2_with (go_at_call 39; refine (CH.out _ HG0.out).mono ?_; rintro e w1 ⟨rfl, hg1⟩; have hg := HG0.out.trans hg1)
    go_ret2
    exact HF.out _ _ _ HE.out HE2.out hg
end Go.Proofs.Ytjiahcfegfimmaa
