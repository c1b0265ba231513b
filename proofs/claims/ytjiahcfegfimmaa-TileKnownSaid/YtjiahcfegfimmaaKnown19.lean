/-
  The walks of letter and Text.
-/
import Derived.Test.YtjiahcfegfimmaaKnown03
import Derived.Test.YtjiahcfegfimmaaKnown18
import Derived.Test.YtjiahcfegfimmaaKnown16
namespace Go.Proofs.Ytjiahcfegfimmaa
open Go.RowKit

theorem place_two (s : TSet) (k : Int) : placeP s k = (-4, 0) ∨ ∃ su r : Int, placeP s k = (su, r) ∧ -3 ≤ su ∧ su ≤ 2 ∧ 0 ≤ r ∧ r ≤ 8 ∧ chkErr s = 0 ∧ (su = -3 → plainI s ≤ k) := by
  by_cases e : chkErr s = 0
  · have V := valid_of e
    by_cases hk : k < 0 ∨ ((allP s).length : Int) ≤ k
    · exact .inl (place_out hk)
    · have hm := place_in (s := s) (k := k) (by omega) (by omega)
      have v1 := V.wi
      have v2 := V.dr
      have v3 := V.fl
      have v4 := V.su3
      refine .inr ?_
      rcases place_cases e hm with ⟨j, r, ⟨hj, hr, hk'⟩, h2⟩ | ⟨r, hr, _, h2⟩ | ⟨r, hr, _, h2⟩ | ⟨r, hr, h1, h2⟩
      · have := V.su s.su[j] (List.getElem_mem hj)
        exact ⟨_, _, h2, by omega, by omega, by omega, by omega, e, by omega⟩
      · exact ⟨_, _, h2, by omega, by omega, by omega, by omega, e, by omega⟩
      · exact ⟨_, _, h2, by omega, by omega, by omega, by omega, e, by omega⟩
      · exact ⟨_, _, h2, by omega, by omega, by omega, by omega, e, fun _ => by simp only at h1; unfold plainI; omega⟩
  · exact .inl (place_bad k e)
theorem red_plain {s : TSet} {k : Int} (e : chkErr s = 0) (h : k ∈ s.re) : 0 ≤ k ∧ k < plainI s := (risErr_take (valid_of e).re k h).2

theorem letter_any (su : Int) (red : Bool) (w : World) (h0 : -3 ≤ su) (h1 : su ≤ 2) (h2 : red = true → su ≠ -3) : Calls Try.prog 74 #[.int .i64 su, .bool red] w (Same w (.int .u8 (letB (letN su red)))) := by
  have hfin : ∀ r, letB (letN su red) = r → Same w (.int .u8 (letB (letN su red))) (.returned (.int .u8 r)) w := fun r hr => ⟨by rw [hr], rfl⟩
  have HF := hid hfin
  clear hfin
  cases red
  · rcases (show su = -3 ∨ su = -2 ∨ su = -1 ∨ su = 0 ∨ su = 1 ∨ su = 2 by omega) with rfl | rfl | rfl | rfl | rfl | rfl
    all_goals
      go_enter Try.func74, Try.ntmps74
      go_wp2
      go_ret
      exact HF.out _ (by decide)
  · have := h2 rfl
    rcases (show su = -2 ∨ su = -1 ∨ su = 0 ∨ su = 1 ∨ su = 2 by omega) with rfl | rfl | rfl | rfl | rfl
    all_goals
      go_enter Try.func74, Try.ntmps74
      go_wp2
      go_ret
      exact HF.out _ (by decide)

/-- What Text hands back. -/
def textV (s : TSet) (fs : List FaceZ) : ByteArray := if textErr s fs = 0 then strOfNums (textB s fs) else ⟨#[]⟩
/-- What the loop over the faces has written. -/
structure TextSt (w wr : World) (s : TSet) (fs : List FaceZ) (k : Nat) (out : Value) (o : List Int) (last : Int) : Prop where
  own : OwnV w wr 5 out (byts o)
  all : o ++ restB last ((fs.drop k).map (markF s)) = textB s fs
  g : Grow w wr
  err : facesErr s fs = facesErr s (fs.drop k)
  len : o.length ≤ 2 * k
  b : 0 ≤ last ∧ last ≤ 255
theorem TextSt.step {w wr w' : World} {s : TSet} {fs : List FaceZ} {k : Nat} {out out' : Value} {o : List Int} {last : Int} (h : TextSt w wr s fs k out o last) (hk : k < fs.length) {su r : Int} (hp : placeP s fs[k].1 = (su, r)) (hs : -3 ≤ su ∧ su ≤ 2)
    (hr : fs[k].2 = true → fs[k].1 ∈ s.re ∧ su ≠ -3) {o' : List Int} (ho : OwnV w w' 5 out' (byts (o' ++ [49 + r]))) (he : o' = if last ≠ 0 ∧ last ≠ letB (letN su fs[k].2) then o ++ [last] else o) (hg : Grow w w') :
    TextSt w w' s fs (k + 1) out' (o' ++ [49 + r]) (letB (letN su fs[k].2)) := by
  have hl := letN_is (red := fs[k].2) hs.1 hs.2
  have hlt : letN su fs[k].2 < 11 := by
    unfold letN at *
    by_cases hc : fs[k].2 = true
    · have := (hr hc).2
      rw [if_pos hc] at *
      split <;> omega
    · rw [if_neg hc] at *
      split <;> omega
  have hb := letB_pos hl.1 hlt
  refine ⟨ho, ?_, hg, ?_, ?_, by omega⟩
  · have h1 := h.all
    rw [List.drop_eq_getElem_cons hk, List.map_cons, restB_cons (by unfold markF; rw [hp]; simp only; omega)] at h1
    rw [← h1]
    simp only [markF, hp]
    rw [he]
    split <;> simp
  · rw [h.err, facesErr_drop hk, if_neg (by rw [hp]; simp only; omega), if_neg (fun hc => hc.2 (hr hc.1).1)]
  · have := h.len
    rw [he]
    split <;> simp <;> omega
theorem TextSt.done {w wr : World} {s : TSet} {fs : List FaceZ} {k : Nat} {out : Value} {o : List Int} {last : Int} (h : TextSt w wr s fs k out o last) (hk : fs.length ≤ k) (hc : chkErr s = 0) : textErr s fs = 0 ∧ textB s fs = o ++ if last ≠ 0 then [last] else [] := by
  have h1 := h.err
  have h2 := h.all
  rw [List.drop_eq_nil_of_le hk] at h1 h2
  refine ⟨?_, ?_⟩
  · unfold textErr; rw [if_neg (by omega), h1]; rfl
  · rw [← h2, List.map_nil, restB_nil]

set_option maxRecDepth 100000 in
set_option maxHeartbeats 4000000 in
theorem Text_any (v vl : Value) (s : TSet) (fs : List FaceZ) (w : World) (h : IsSet w v s) (hf : IsFaces w vl fs) (hn : fs.length ≤ 1000000) :
    Calls Try.prog 19 #[v, vl] w (Gives w (.tuple #[.string (textV s fs), .int .i64 (textErr s fs)])) := by
  have hfin : ∀ (x : ByteArray) (r : Int) wf, textErr s fs = r → textV s fs = x → Grow w wf → Gives w (.tuple #[.string (textV s fs), .int .i64 (textErr s fs)]) (.returned (.tuple #[.string x, .int .i64 r])) wf := fun x r wf h hx hg => ⟨by rw [h, hx], hg⟩
  have HF := hid hfin
  have CH := fun W (hg : Grow w W) => Check_any v s W (h.grow hg)
  have PL := hid (fun W (hg : Grow w W) k => Place_any v s k W (h.grow hg))
  clear hfin
  obtain ⟨AF, cF, rfl, f1, f2, rF⟩ := hf
  unfold maxLen at f2
  have HI := hid h
  obtain ⟨A, c, B, d, rfl, h1, h2⟩ := h.open_
  obtain ⟨_, _, e1, c1, m1, r1⟩ := h1
  obtain ⟨_, _, e2, d1, m2, r2⟩ := h2
  injection e1 with e1 _ e1'
  injection e2 with e2 _ e2'
  subst e1 e1' e2 e2'
  unfold maxLen at m1 m2
  have HG0 := hid (show Grow w (w.alloc (.cells #[.int .i64 s.pl, .slice A s.su.length c, .int .i64 s.wi, .int .i64 s.dr, .int .i64 s.fl, .int .i64 s.co, .int .i64 s.me, .int .i64 s.de, .slice B s.re.length d] 24)) from (Grow.refl w).alloc _)
  have HB0 := hid (show Blk (w.alloc (.cells #[.int .i64 s.pl, .slice A s.su.length c, .int .i64 s.wi, .int .i64 s.dr, .int .i64 s.fl, .int .i64 s.co, .int .i64 s.me, .int .i64 s.de, .slice B s.re.length d] 24)) w.heap.size 24 (setVals s (.slice A s.su.length c) (.slice B s.re.length d)) from heap_alloc_new w _)
  clear h
  by_cases e : chkErr s = 0
  · rw [e] at CH
    have CH := hid CH
    have HE0 := hid e
    have CT := hid (fun W (hg : Grow w W) k => Contains_any (.slice B s.re.length d) s.re k W ⟨B, d, rfl, by omega, by unfold maxLen; omega, r2.grow hg⟩)
    have HRF := hid rF
    clear e rF
    go_enter Try.func19, Try.ntmps19
    go_wp2_with (go_at_call 38; refine (CH.out _ HG0.out).mono ?_; rintro e w1 ⟨rfl, hg1⟩; have hg := HG0.out.trans hg1)
    have HB1 := hid (HB0.out.grow hg1)
    have HG1 := hid hg
    clear hg1 hg
    go_loopw [7, 8, 21] (fun out last i wr => ∃ (k : Nat) (o : List Int) (l : Int), k ≤ fs.length ∧ i = .int .i64 (k : Int) ∧ last = .int .u8 l ∧ TextSt w1 wr s fs k out o l) (fun _ _ i _ => fs.length - (intOf i).toNat)
    case atStart => exact ⟨0, [], 0, Nat.zero_le _, rfl, rfl, ⟨OwnV.nil, by simp [restB, textB], Grow.refl _, by simp, by simp, by omega⟩⟩
    case round =>
      obtain ⟨k, o, l, hk, rfl, rfl, hst⟩ := hrel
      have HST := hid hst
      have hgr := hst.g
      have HGR := hid hgr
      have hlen := hst.len
      have hlb := hst.b
      clear hst
      by_cases hlt : k < fs.length
      · obtain ⟨ad, rfl, _, x0, x1⟩ := (HRF.out.grow (HG1.out.trans hgr)).face hlt
        have i0 : (0 : Int) ≤ (k : Int) := by omega
        have i1 : (k : Int) < (fs.length : Int) := by omega
        obtain ⟨c0, c1, c2, c3, c4, c5, c6, c7, c8⟩ := set_cells (HB1.out.grow hgr)
        have hTL : w.heap.size < wr.heap.size := (HB1.out.grow hgr).lt
        clear hgr
        have HW := hid (HG1.out.trans HGR.out)
        have HBF := hid (fun (kd : Int) (rd : Bool) => (Blk.new_at (w := wr) (e := 73) (xs := [.int .i64 kd, .bool rd]) rfl : Blk _ wr.heap.size 73 [.int .i64 kd, .bool rd]))
        rcases place_two s fs[k].1 with hp | ⟨su, r, hp, hs0, hs1, hr0, hr1, he, hfl⟩
        · have HE := hid (show textErr s fs = 2 by unfold textErr; rw [if_neg (by have := HE0.out; omega), HST.out.err, facesErr_drop hlt, if_pos (by rw [hp])])
          have HE2 := hid (show textV s fs = ⟨#[]⟩ by unfold textV; rw [if_neg (by rw [HE.out]; decide)])
          have pk := fun W (hg : Grow w W) => PL.out W hg fs[k].1
          rw [hp] at pk
          have PK := hid pk
          clear hp pk
          generalize fs[k].1 = kd at *
          generalize fs[k].2 = rd at *
          go_wp2_with (go_at_call 35; refine (PK.out _ (HW.out.alloc _)).mono ?_; rintro e w2 ⟨rfl, hg2⟩; have hgg := (HGR.out.alloc _).trans hg2; have hgw := ((Grow.refl wr).alloc _).trans hg2; clear c0 c1 c2 c3 c4 c5 c6 c7 c8; obtain ⟨c0, c1, c2, c3, c4, c5, c6, c7, c8⟩ := set_cells ((HB1.out.grow (HGR.out.alloc _)).grow hg2); have f0 := ((HBF.out _ _).grow hg2).cell 0; have f1 := ((HBF.out _ _).grow hg2).cell 1; simp only [List.getElem?_cons_zero, List.getElem?_cons_succ] at f0 f1)
          go_ret2
          exact HF.out _ _ _ HE.out HE2.out (HG1.out.trans hgg)
        · have pk := fun W (hg : Grow w W) => PL.out W hg fs[k].1
          rw [hp] at pk
          have PK := hid pk
          have q0 : ¬ su < -3 := by omega
          by_cases hrd : fs[k].2 = true
          · by_cases hmem : fs[k].1 ∈ s.re
            · have hs3 : su ≠ -3 := fun e => by have := red_plain he hmem; have := hfl e; omega
              have ct := fun W (hg : Grow w W) => CT.out W hg fs[k].1
              rw [decide_eq_true hmem] at ct
              have CK := hid ct
              have HSTEP := hid (fun w' out' o' ho hoe hg => HST.out.step hlt hp ⟨hs0, hs1⟩ (fun _ => ⟨hmem, hs3⟩) (w' := w') (out' := out') (o' := o') ho hoe hg)
              rw [hrd] at HSTEP x1
              have LT := hid (fun W => letter_any su true W hs0 hs1 (fun _ => hs3))
              have hll := letB_pos (n := letN su true) (letN_is hs0 hs1).1 (by unfold letN; simp; split <;> omega)
              clear hp pk ct hmem hrd hfl he
              generalize letB (letN su true) = lt at *
              generalize fs[k].1 = kd at *
              by_cases hl0 : l = 0
              · skip
                have n1 : (l != 0) = false := by simp [hl0]
                have HL := hid (show o = if l ≠ 0 ∧ l ≠ lt then o ++ [l] else o by rw [if_neg (by omega)])
                clear hl0
                go_wp2_with (first
                  | (go_at_call 35; refine (PK.out _ (HW.out.alloc _)).mono ?_; rintro e w2 ⟨rfl, hg2⟩; have hgg := (HGR.out.alloc _).trans hg2; have hgw := ((Grow.refl wr).alloc _).trans hg2; clear c0 c1 c2 c3 c4 c5 c6 c7 c8; obtain ⟨c0, c1, c2, c3, c4, c5, c6, c7, c8⟩ := set_cells ((HB1.out.grow (HGR.out.alloc _)).grow hg2); have f0 := ((HBF.out _ _).grow hg2).cell 0; have f1 := ((HBF.out _ _).grow hg2).cell 1; simp only [List.getElem?_cons_zero, List.getElem?_cons_succ] at f0 f1)
                  | (go_at_call 73; refine (CK.out _ (HG1.out.trans hgg)).mono ?_; rintro e w3 ⟨rfl, rfl⟩)
                  | (go_at_call 74; refine (LT.out _).mono ?_; rintro e w3 ⟨rfl, rfl⟩)
                  | (at_builtin; refine wpList_append_val w1 w2 5 (.int .u8 0) _ 1 infoByte rfl (by decide) (by rfl) rfl (.tmp 59) (.tmp 63) _ rfl Try.underlying77 _ (byts o) rfl (HST.out.own.kept hgw) rfl (by rw [List.length_map]; first | omega | (rw [List.length_append]; simp; omega)) hgg ?_; intro v3 w3 ho3 hg3 _))
                exact ⟨⟨k + 1, _, _, by omega, by go_num, rfl, HSTEP.out w3 v3 o (by simpa using ho3) HL.out hg3⟩, by simp only [intOf]; omega⟩
              · by_cases hl1 : l = lt
                · skip
                  have n1 : (l != 0) = true := by simp [hl0]
                  have n2 : (l != lt) = false := by simp [hl1]
                  have HL := hid (show o = if l ≠ 0 ∧ l ≠ lt then o ++ [l] else o by rw [if_neg (by omega)])
                  clear hl0 hl1
                  go_wp2_with (first
                    | (go_at_call 35; refine (PK.out _ (HW.out.alloc _)).mono ?_; rintro e w2 ⟨rfl, hg2⟩; have hgg := (HGR.out.alloc _).trans hg2; have hgw := ((Grow.refl wr).alloc _).trans hg2; clear c0 c1 c2 c3 c4 c5 c6 c7 c8; obtain ⟨c0, c1, c2, c3, c4, c5, c6, c7, c8⟩ := set_cells ((HB1.out.grow (HGR.out.alloc _)).grow hg2); have f0 := ((HBF.out _ _).grow hg2).cell 0; have f1 := ((HBF.out _ _).grow hg2).cell 1; simp only [List.getElem?_cons_zero, List.getElem?_cons_succ] at f0 f1)
                    | (go_at_call 73; refine (CK.out _ (HG1.out.trans hgg)).mono ?_; rintro e w3 ⟨rfl, rfl⟩)
                    | (go_at_call 74; refine (LT.out _).mono ?_; rintro e w3 ⟨rfl, rfl⟩)
                    | (at_builtin; refine wpList_append_val w1 w2 5 (.int .u8 0) _ 1 infoByte rfl (by decide) (by rfl) rfl (.tmp 59) (.tmp 63) _ rfl Try.underlying77 _ (byts o) rfl (HST.out.own.kept hgw) rfl (by rw [List.length_map]; first | omega | (rw [List.length_append]; simp; omega)) hgg ?_; intro v3 w3 ho3 hg3 _))
                  exact ⟨⟨k + 1, _, _, by omega, by go_num, rfl, HSTEP.out w3 v3 o (by simpa using ho3) HL.out hg3⟩, by simp only [intOf]; omega⟩
                · skip
                  have n1 : (l != 0) = true := by simp [hl0]
                  have n2 : (l != lt) = true := by simp [hl1]
                  have HL := hid (show o ++ [l] = if l ≠ 0 ∧ l ≠ lt then o ++ [l] else o by rw [if_pos ⟨hl0, hl1⟩])
                  clear hl0 hl1
                  go_wp2_with (first
                    | (go_at_call 35; refine (PK.out _ (HW.out.alloc _)).mono ?_; rintro e w2 ⟨rfl, hg2⟩; have hgg := (HGR.out.alloc _).trans hg2; have hgw := ((Grow.refl wr).alloc _).trans hg2; clear c0 c1 c2 c3 c4 c5 c6 c7 c8; obtain ⟨c0, c1, c2, c3, c4, c5, c6, c7, c8⟩ := set_cells ((HB1.out.grow (HGR.out.alloc _)).grow hg2); have f0 := ((HBF.out _ _).grow hg2).cell 0; have f1 := ((HBF.out _ _).grow hg2).cell 1; simp only [List.getElem?_cons_zero, List.getElem?_cons_succ] at f0 f1)
                    | (go_at_call 73; refine (CK.out _ (HG1.out.trans hgg)).mono ?_; rintro e w3 ⟨rfl, rfl⟩)
                    | (go_at_call 74; refine (LT.out _).mono ?_; rintro e w3 ⟨rfl, rfl⟩)
                    | (at_builtin; refine wpList_append_val w1 w2 5 (.int .u8 0) _ 1 infoByte rfl (by decide) (by rfl) rfl (.tmp 55) (.tmp 57) _ rfl Try.underlying77 _ (byts o) rfl (HST.out.own.kept hgw) rfl (by rw [List.length_map]; first | omega | (rw [List.length_append]; simp; omega)) hgg ?_; intro v4 w4 ho4 hg4 _; have ho4b : OwnV w1 w4 5 v4 (byts (o ++ [l])) := (by simpa using ho4))
                    | (at_builtin; refine wpList_append_val w1 w4 5 (.int .u8 0) _ 1 infoByte rfl (by decide) (by rfl) rfl (.tmp 59) (.tmp 63) _ rfl Try.underlying77 _ (byts (o ++ [l])) rfl ho4b rfl (by rw [List.length_map]; first | omega | (rw [List.length_append]; simp; omega)) hg4 ?_; intro v3 w3 ho3 hg3 _))
                  exact ⟨⟨k + 1, _, _, by omega, by go_num, rfl, HSTEP.out w3 v3 (o ++ [l]) (by simpa using ho3) HL.out hg3⟩, by simp only [intOf]; omega⟩
            · have HE := hid (show textErr s fs = 4 by unfold textErr; rw [if_neg (by have := HE0.out; omega), HST.out.err, facesErr_drop hlt, if_neg (by rw [hp]; simp only; omega), if_pos ⟨hrd, hmem⟩])
              have HE2 := hid (show textV s fs = ⟨#[]⟩ by unfold textV; rw [if_neg (by rw [HE.out]; decide)])
              have ct := fun W (hg : Grow w W) => CT.out W hg fs[k].1
              rw [decide_eq_false hmem] at ct
              have CK := hid ct
              rw [hrd] at x1
              clear hp pk ct hmem hrd hfl he
              generalize fs[k].1 = kd at *
              go_wp2_with (first
                | (go_at_call 35; refine (PK.out _ (HW.out.alloc _)).mono ?_; rintro e w2 ⟨rfl, hg2⟩; have hgg := (HGR.out.alloc _).trans hg2; have hgw := ((Grow.refl wr).alloc _).trans hg2; clear c0 c1 c2 c3 c4 c5 c6 c7 c8; obtain ⟨c0, c1, c2, c3, c4, c5, c6, c7, c8⟩ := set_cells ((HB1.out.grow (HGR.out.alloc _)).grow hg2); have f0 := ((HBF.out _ _).grow hg2).cell 0; have f1 := ((HBF.out _ _).grow hg2).cell 1; simp only [List.getElem?_cons_zero, List.getElem?_cons_succ] at f0 f1)
                | (go_at_call 73; refine (CK.out _ (HG1.out.trans hgg)).mono ?_; rintro e w3 ⟨rfl, rfl⟩))
              go_ret2
              exact HF.out _ _ _ HE.out HE2.out (HG1.out.trans hgg)
          · have hrd' : fs[k].2 = false := by simpa using hrd
            have HSTEP := hid (fun w' out' o' ho hoe hg => HST.out.step hlt hp ⟨hs0, hs1⟩ (fun h => absurd h hrd) (w' := w') (out' := out') (o' := o') ho hoe hg)
            rw [hrd'] at HSTEP x1
            have LT := hid (fun W => letter_any su false W hs0 hs1 (fun h => by cases h))
            have hll := letB_pos (n := letN su false) (letN_is hs0 hs1).1 (by have := (letN_is (red := false) hs0 hs1).2; simp at this; omega)
            clear hp pk hrd hrd' hfl he
            generalize letB (letN su false) = lt at *
            generalize fs[k].1 = kd at *
            by_cases hl0 : l = 0
            · skip
              have n1 : (l != 0) = false := by simp [hl0]
              have HL := hid (show o = if l ≠ 0 ∧ l ≠ lt then o ++ [l] else o by rw [if_neg (by omega)])
              clear hl0
              go_wp2_with (first
                | (go_at_call 35; refine (PK.out _ (HW.out.alloc _)).mono ?_; rintro e w2 ⟨rfl, hg2⟩; have hgg := (HGR.out.alloc _).trans hg2; have hgw := ((Grow.refl wr).alloc _).trans hg2; clear c0 c1 c2 c3 c4 c5 c6 c7 c8; obtain ⟨c0, c1, c2, c3, c4, c5, c6, c7, c8⟩ := set_cells ((HB1.out.grow (HGR.out.alloc _)).grow hg2); have f0 := ((HBF.out _ _).grow hg2).cell 0; have f1 := ((HBF.out _ _).grow hg2).cell 1; simp only [List.getElem?_cons_zero, List.getElem?_cons_succ] at f0 f1)
                | (go_at_call 74; refine (LT.out _).mono ?_; rintro e w3 ⟨rfl, rfl⟩)
                | (at_builtin; refine wpList_append_val w1 w2 5 (.int .u8 0) _ 1 infoByte rfl (by decide) (by rfl) rfl (.tmp 59) (.tmp 63) _ rfl Try.underlying77 _ (byts o) rfl (HST.out.own.kept hgw) rfl (by rw [List.length_map]; first | omega | (rw [List.length_append]; simp; omega)) hgg ?_; intro v3 w3 ho3 hg3 _))
              exact ⟨⟨k + 1, _, _, by omega, by go_num, rfl, HSTEP.out w3 v3 o (by simpa using ho3) HL.out hg3⟩, by simp only [intOf]; omega⟩
            · by_cases hl1 : l = lt
              · skip
                have n1 : (l != 0) = true := by simp [hl0]
                have n2 : (l != lt) = false := by simp [hl1]
                have HL := hid (show o = if l ≠ 0 ∧ l ≠ lt then o ++ [l] else o by rw [if_neg (by omega)])
                clear hl0 hl1
                go_wp2_with (first
                  | (go_at_call 35; refine (PK.out _ (HW.out.alloc _)).mono ?_; rintro e w2 ⟨rfl, hg2⟩; have hgg := (HGR.out.alloc _).trans hg2; have hgw := ((Grow.refl wr).alloc _).trans hg2; clear c0 c1 c2 c3 c4 c5 c6 c7 c8; obtain ⟨c0, c1, c2, c3, c4, c5, c6, c7, c8⟩ := set_cells ((HB1.out.grow (HGR.out.alloc _)).grow hg2); have f0 := ((HBF.out _ _).grow hg2).cell 0; have f1 := ((HBF.out _ _).grow hg2).cell 1; simp only [List.getElem?_cons_zero, List.getElem?_cons_succ] at f0 f1)
                  | (go_at_call 74; refine (LT.out _).mono ?_; rintro e w3 ⟨rfl, rfl⟩)
                  | (at_builtin; refine wpList_append_val w1 w2 5 (.int .u8 0) _ 1 infoByte rfl (by decide) (by rfl) rfl (.tmp 59) (.tmp 63) _ rfl Try.underlying77 _ (byts o) rfl (HST.out.own.kept hgw) rfl (by rw [List.length_map]; first | omega | (rw [List.length_append]; simp; omega)) hgg ?_; intro v3 w3 ho3 hg3 _))
                exact ⟨⟨k + 1, _, _, by omega, by go_num, rfl, HSTEP.out w3 v3 o (by simpa using ho3) HL.out hg3⟩, by simp only [intOf]; omega⟩
              · skip
                have n1 : (l != 0) = true := by simp [hl0]
                have n2 : (l != lt) = true := by simp [hl1]
                have HL := hid (show o ++ [l] = if l ≠ 0 ∧ l ≠ lt then o ++ [l] else o by rw [if_pos ⟨hl0, hl1⟩])
                clear hl0 hl1
                go_wp2_with (first
                  | (go_at_call 35; refine (PK.out _ (HW.out.alloc _)).mono ?_; rintro e w2 ⟨rfl, hg2⟩; have hgg := (HGR.out.alloc _).trans hg2; have hgw := ((Grow.refl wr).alloc _).trans hg2; clear c0 c1 c2 c3 c4 c5 c6 c7 c8; obtain ⟨c0, c1, c2, c3, c4, c5, c6, c7, c8⟩ := set_cells ((HB1.out.grow (HGR.out.alloc _)).grow hg2); have f0 := ((HBF.out _ _).grow hg2).cell 0; have f1 := ((HBF.out _ _).grow hg2).cell 1; simp only [List.getElem?_cons_zero, List.getElem?_cons_succ] at f0 f1)
                  | (go_at_call 74; refine (LT.out _).mono ?_; rintro e w3 ⟨rfl, rfl⟩)
                  | (at_builtin; refine wpList_append_val w1 w2 5 (.int .u8 0) _ 1 infoByte rfl (by decide) (by rfl) rfl (.tmp 55) (.tmp 57) _ rfl Try.underlying77 _ (byts o) rfl (HST.out.own.kept hgw) rfl (by rw [List.length_map]; first | omega | (rw [List.length_append]; simp; omega)) hgg ?_; intro v4 w4 ho4 hg4 _; have ho4b : OwnV w1 w4 5 v4 (byts (o ++ [l])) := (by simpa using ho4))
                  | (at_builtin; refine wpList_append_val w1 w4 5 (.int .u8 0) _ 1 infoByte rfl (by decide) (by rfl) rfl (.tmp 59) (.tmp 63) _ rfl Try.underlying77 _ (byts (o ++ [l])) rfl ho4b rfl (by rw [List.length_map]; first | omega | (rw [List.length_append]; simp; omega)) hg4 ?_; intro v3 w3 ho3 hg3 _))
                exact ⟨⟨k + 1, _, _, by omega, by go_num, rfl, HSTEP.out w3 v3 (o ++ [l]) (by simpa using ho3) HL.out hg3⟩, by simp only [intOf]; omega⟩
      · obtain ⟨z1, z2⟩ := HST.out.done (by omega) HE0.out
        have HE := hid z1
        have HE3 := hid z2
        clear z1 z2
        by_cases hl0 : l = 0
        · have n1 : (l != 0) = false := by simp [hl0]
          have HE2 := hid (show textV s fs = strOfNums o by unfold textV; rw [if_pos HE.out, HE3.out, if_neg (by omega), List.append_nil])
          have SO := hid (run_str_own HST.out.own)
          have SO' := SO.out
          clear hl0
          go_wp2
          go_ret2
          exact HF.out _ _ _ HE.out HE2.out (HG1.out.trans hgr)
        · have n1 : (l != 0) = true := by simp [hl0]
          have HE2 := hid (show textV s fs = strOfNums (o ++ [l]) by unfold textV; rw [if_pos HE.out, HE3.out, if_pos hl0])
          clear hl0
          go_wp2_with (at_builtin; refine wpList_append_val w1 wr 5 (.int .u8 0) _ 1 infoByte rfl (by decide) (by rfl) rfl (.tmp 69) (.tmp 71) _ rfl Try.underlying77 _ (byts o) rfl HST.out.own rfl (by rw [List.length_map]; first | omega | (rw [List.length_append]; simp; omega)) hgr ?_; intro v4 w4 ho4 hg4 _; have SO := run_str_own (show OwnV w1 _ _ _ (byts (o ++ [l])) by simpa using ho4))
          go_ret2
          exact HF.out _ _ _ HE.out HE2.out (HG1.out.trans hg4)
  · have HE := hid (show textErr s fs = chkErr s by unfold textErr; rw [if_pos e])
    have HE2 := hid (show textV s fs = ⟨#[]⟩ by unfold textV; rw [if_neg]; rw [HE.out]; exact e)
    have ne : (chkErr s != 0) = true := by simp [e]
    have CH := hid CH
    clear e
    generalize chkErr s = n at *
    go_enter Try.func19, Try.ntmps19
    go_wp2_with (go_at_call 38; refine (CH.out _ HG0.out).mono ?_; rintro e w1 ⟨rfl, hg1⟩; have hg := HG0.out.trans hg1)
    go_ret2
    exact HF.out _ _ _ HE.out HE2.out hg
end Go.Proofs.Ytjiahcfegfimmaa
