/-
  Walks of Bag and Faces, the program's and the reference's.
-/
import Derived.Test.YtjiahcfegfimmaaKnown43
import Derived.Deep.RegionLaw
import Derived.Outline
namespace Go.Proofs.Ytjiahcfegfimmaa
open Go.RowKit

theorem dupE_ok {n : Int} {p l : List Int} (h : dupE n p l = 0) : ∀ t ∈ l, 0 ≤ t ∧ t < n := by
  induction l generalizing p with
  | nil => simp
  | cons x l ih =>
    unfold dupE at h
    by_cases h1 : x < 0 ∨ n ≤ x
    · rw [if_pos h1] at h; omega
    rw [if_neg h1] at h
    by_cases h2 : x ∈ p
    · rw [if_pos h2] at h; omega
    rw [if_neg h2] at h
    intro t ht
    rcases List.mem_cons.1 ht with rfl | ht
    · omega
    · exact ih h t ht
theorem onceErr_ok {s : TSet} {ts : List Int} (h : onceErr s ts = 0) : chkErr s = 0 ∧ dupE (sizeI s) [] ts = 0 := by
  unfold onceErr at h
  by_cases e : chkErr s = 0
  · rw [if_neg (by omega)] at h; exact ⟨e, h⟩
  · rw [if_pos e] at h; exact absurd h e
theorem kind_quo {s : TSet} {t : Int} (e : chkErr s = 0) (h0 : 0 ≤ t) (h1 : t < sizeI s) : 0 ≤ kindI s t ∧ 0 ≤ t / s.co ∧ t / s.co ≤ 144 ∧ (t / s.co < plainI s → kindI s t = t / s.co) ∧ (plainI s ≤ t / s.co → plainI s ≤ kindI s t) ∧ kindI s t ≤ 144 := by
  have V := valid_of e
  have hc := V.co
  have hp := V.plain
  have hf := V.fl
  have ht := V.tiles
  rw [size_ok e] at h1
  have hq0 := Int.ediv_nonneg h0 (show 0 ≤ s.co by omega)
  have hq1 := Int.ediv_le_self s.co h0
  have hm := Int.mul_ediv_add_emod t s.co
  have hm0 := Int.emod_nonneg t (show s.co ≠ 0 by omega)
  have hm1 := Int.emod_lt_of_pos t (show 0 < s.co by omega)
  unfold kindI
  rw [if_neg (by rw [size_ok e]; omega)]
  by_cases hk : plainI s * s.co ≤ t
  · rw [if_pos hk]
    refine ⟨by omega, hq0, by omega, fun h => ?_, fun _ => by omega, by omega⟩
    exfalso
    have h2 : (t / s.co + 1) * s.co ≤ plainI s * s.co := Int.mul_le_mul_of_nonneg_right (by omega) (by omega)
    rw [Int.add_mul, Int.mul_comm (t / s.co)] at h2
    omega
  · rw [if_neg hk]
    exact ⟨hq0, hq0, by omega, fun _ => rfl, fun h => h, by omega⟩
def bagV (s : TSet) (ts : List Int) : List Int := if onceErr s ts = 0 then bagI s ts else []
def facesV (s : TSet) (ts : List Int) : List (Int × Bool) := if onceErr s ts = 0 then facesI s ts else []
def BagRes (w : World) (s : TSet) (ts : List Int) (e : Ending) (w' : World) : Prop := ∃ v, e = .returned (.tuple #[v, .int .i64 (onceErr s ts)]) ∧ IsInts w' v (bagV s ts) ∧ Grow w w'
def FcsRes (w : World) (s : TSet) (ts : List Int) (e : Ending) (w' : World) : Prop := ∃ v, e = .returned (.tuple #[v, .int .i64 (onceErr s ts)]) ∧ IsFaces w' v (facesV s ts) ∧ Grow w w'
theorem facesI_snoc (s : TSet) (ts : List Int) (t : Int) : facesI s (ts ++ [t]) = facesI s ts ++ [(kindI s t, redB s t)] := by simp [facesI]


set_option maxRecDepth 100000 in
set_option maxHeartbeats 4000000 in
theorem Bag_any (v v2 : Value) (s : TSet) (ts : List Int) (w : World) (h : IsSet w v s) (h2 : IsInts w v2 ts) (hz : RangeZ ts) (hl : ts.length ≤ 1000000) : Calls Try.prog 62 #[v, v2] w (BagRes w s ts) := by
  have hfin : ∀ r wf, onceErr s ts = r → r ≠ 0 → Grow w wf → BagRes w s ts (.returned (.tuple #[.slice none 0 0, .int .i64 r])) wf := fun r wf h hne hg => ⟨_, by rw [h], by unfold bagV; rw [if_neg (by rw [h]; exact hne)]; exact IsInts.nil, hg⟩
  have HF := hid hfin
  clear hfin
  have ON := fun W (hg : Grow w W) => once_any v v2 s ts W (h.grow hg) (h2.grow hg)
  have KN := fun W (hg : Grow w W) => count_any v s W (h.grow hg)
  have KD := hid (fun W (hg : Grow w W) t (ht : -9223372036854775808 ≤ t ∧ t ≤ 9223372036854775807) => Kind_any v s t W (h.grow hg) ht.1 ht.2)
  have RD := hid (fun W (hg : Grow w W) t (ht : -9223372036854775808 ≤ t ∧ t ≤ 9223372036854775807) => Red_any v s t W (h.grow hg) ht.1 ht.2)
  have HZ := hid hz
  clear hz
  obtain ⟨A2, e2, rfl, q1, q2, rT⟩ := h2
  unfold maxLen at q2
  have HRT := hid rT
  clear rT
  have HI := hid h
  obtain ⟨A, c, B, d, rfl, h1, h2⟩ := h.open_
  obtain ⟨_, _, e1, c1, m1, r1⟩ := h1
  obtain ⟨_, _, e2, d1, m2, r2⟩ := h2
  injection e1 with e1 _ e1'
  injection e2 with e2 _ e2'
  subst e1 e1' e2 e2'
  unfold maxLen at m1 m2
  have HG0 := hid (show Grow w (w.alloc (.cells #[.int .i64 s.pl, .slice A s.su.length c, .int .i64 s.wi, .int .i64 s.dr, .int .i64 s.fl, .int .i64 s.co, .int .i64 s.me, .int .i64 s.de, .slice B s.re.length d] 24)) from (Grow.refl w).alloc _)
  have HB0 := hid (show Blk (w.alloc (.cells #[.int .i64 s.pl, .slice A s.su.length c, .int .i64 s.wi, .int .i64 s.dr, .int .i64 s.fl, .int .i64 s.co, .int .i64 s.me, .int .i64 s.de, .slice B s.re.length d] 24)) w.heap.size 24 (setVals s (.slice A s.su.length c) (.slice B s.re.length d)) from heap_alloc_new w _)
  clear h
  by_cases ho : onceErr s ts = 0
  case neg =>
    have ne : (onceErr s ts != 0) = true := by simp [ho]
    have HN := hid ho
    have ON := hid ON
    clear ho KN
    generalize onceErr s ts = n at *
    go_enter Try.func62, Try.ntmps62
    go_wp2_with (first | (go_at_call 81; refine (ON.out _ HG0.out).mono ?_; rintro e w2 ⟨rfl, hg2⟩; have hgg := HG0.out.trans hg2; have hb2 := HB0.out.grow hg2; obtain ⟨y0, y1, y2, y3, y4, y5, y6, y7, y8⟩ := set_cells hb2))
    go_ret2
    exact HF.out _ _ rfl HN.out hgg
  obtain ⟨e, hd⟩ := onceErr_ok ho
  have HO := hid ho
  rw [ho] at ON
  have ON := hid ON
  have OK := hid (dupE_ok hd)
  have V := valid_of e
  have hpl := V.plain
  have hco := V.co
  have hK := kinds_ok e
  rw [hK] at KN
  have KN := hid KN
  have HE0 := hid e
  have HK := hid hK
  clear V hK hd e ho
  obtain ⟨n, hn⟩ := Int.eq_ofNat_of_zero_le (show 0 ≤ plainI s by omega)
  have HNN := hid hn
  go_enter Try.func62, Try.ntmps62
  go_wp2_with (first | (go_at_call 81; refine (ON.out _ HG0.out).mono ?_; rintro e w2 ⟨rfl, hg2⟩; have hgg := HG0.out.trans hg2; have hb2 := HB0.out.grow hg2; obtain ⟨y0, y1, y2, y3, y4, y5, y6, y7, y8⟩ := set_cells hb2) | (go_at_call 88; refine (KN.out _ hgg).mono ?_; rintro e w3 ⟨rfl, hg3⟩; have hg33 := hgg.trans hg3; have hb3 := hb2.grow hg3) | (at_make; refine wpList_make_blk w3 _ rfl (.tmp 18) (.tmp 18) _ rfl 3 (.int .i64 0) 8 Try.underlying22 infoInt rfl _ _ _ _ n rfl rfl (by omega) (by omega) (by omega) (by omega) (Grow.refl _) ?_; intro G w4 bG hG0 hG1 hg4 _))
  have HB3 := hid hb3
  have HG3 := hid hg33
  have BG := hid (show Blk w4 G 3 (ints (bagI s [])) by rw [bagI_nil, HK.out, HNN.out]; simpa using bG)
  have HG4 := hid hg4
  have hnl : (plainI s).toNat = n := by omega
  clear y0 y1 y2 y3 y4 y5 y6 y7 y8 bG hg4 hg33 hb3 hg2 hg3 hgg hb2
  go_loopw [22] (fun i wr => ∃ k : Nat, k ≤ ts.length ∧ i = .int .i64 (k : Int) ∧ Blk wr G 3 (ints (bagI s (ts.take k))) ∧ Grow w3 wr) (fun i _ => ts.length - (intOf i).toNat)
  case atStart => exact ⟨0, Nat.zero_le _, rfl, by simpa using BG.out, HG4.out⟩
  case round =>
    obtain ⟨k, hk, rfl, hbg, hgr⟩ := hrel
    have HBG := hid hbg
    have HGR := hid hgr
    have hbl := bagI_length s (ts.take k)
    rw [HK.out] at hbl
    by_cases hlt : k < ts.length
    · obtain ⟨ad, rfl, hb, x0⟩ := (HRT.out.grow (HG3.out.trans hgr)).int hlt
      obtain ⟨y0, y1, y2, y3, y4, y5, y6, y7, y8⟩ := set_cells (HB3.out.grow hgr)
      have i0 : (0 : Int) ≤ (k : Int) := by omega
      have i1 : (k : Int) < (ts.length : Int) := by omega
      have hok := OK.out ts[k] (List.getElem_mem hlt)
      have hrg := HZ.out ts[k] (List.getElem_mem hlt)
      have hkq := kind_quo HE0.out hok.1 hok.2
      have HT := hid (show ts.take (k + 1) = ts.take k ++ [ts[k]] from List.take_succ_eq_append_getElem hlt)
      have KK := hid (fun W (hg : Grow w W) => KD.out W hg ts[k] hrg)
      have HIN := hid (fun (h0 : 0 ≤ kindI s ts[k]) (h1 : kindI s ts[k] < kindsI s) (h9 : (kindI s ts[k]).toNat < (bagI s (ts.take k)).length) => bagI_snoc_in (s := s) (ts := ts.take k) (t := ts[k]) h0 h1 h9)
      have HOUT := hid (fun (h9 : kindsI s ≤ kindI s ts[k]) => bagI_snoc_out (s := s) (ts := ts.take k) (t := ts[k]) h9)
      have hbb := fun i (hi : i < (bagI s (ts.take k)).length) => bagI_bound (s := s) (ts := ts.take k) hi
      generalize ts[k] = t at *
      clear hbg
      have tq : t.tdiv s.co = t / s.co := Int.tdiv_eq_ediv_of_nonneg hok.1
      have TQ := hid tq
      by_cases hp : t / s.co < plainI s
      · skip
        obtain ⟨q, hq⟩ := Int.eq_ofNat_of_zero_le (show 0 ≤ t / s.co by omega)
        have hql : q < (bagI s (ts.take k)).length := by rw [hbl]; omega
        have hbq := hbb q hql
        rw [List.length_take] at hbq
        have cG := HBG.out.cell_int hql
        have fG := HBG.out.free q
        have NEW := hid (show ints ((bagI s (ts.take k)).set q ((bagI s (ts.take k))[q] + 1)) = ints (bagI s (ts.take (k + 1))) by
          have hkt : (kindI s t).toNat = q := by have := hkq.2.2.2.1; omega
          rw [HT.out, HIN.out hkq.1 (by rw [HK.out]; have := hkq.2.2.2.1; omega) (by rw [hkt]; exact hql)]
          simp only [hkt])
        have HQ := hid hq
        have NB := hid (HBG.out.set_int q ((bagI s (ts.take k))[q] + 1))
        have hq0 : (0 : Int) ≤ (q : Int) := by omega
        have hq1 : (q : Int) < (n : Int) := by omega
        generalize (bagI s (ts.take k))[q] = bq at *
        clear hbb hkq hbl
        rw [hq] at tq
        have hdq : t / s.co = (q : Int) := hq
        clear tq TQ hq
        have HDQ := hid hdq
        go_wp2
        exact ⟨⟨k + 1, by omega, by go_num, by first | (rw [← NEW.out]; exact NB.out) | (have := NB.out; rw [← NEW.out]; simpa using this), HGR.out.setBlk hG0 _ _⟩, by simp only [intOf]; omega⟩
      · have hge : ¬ t / s.co < (n : Int) := by omega
        have NEW := hid (HOUT.out (by rw [HK.out]; exact hkq.2.2.2.2.1 (by omega)))
        clear hbb hkq hbl tq TQ
        go_wp2
        exact ⟨⟨k + 1, by omega, by go_num, by rw [HT.out, NEW.out]; exact HBG.out, HGR.out⟩, by simp only [intOf]; omega⟩
    · have ge : ¬ (k : Int) < (ts.length : Int) := by omega
      have hfull : ts.take k = ts := List.take_of_length_le (by omega)
      have FIN := hid (show IsInts wr (.slice (some ⟨G, 0, none⟩) n n) (bagV s ts) by
        have h1 := HBG.out.is (by rw [hbl, hnl]; unfold maxLen; omega)
        rw [hbl, hnl, hfull] at h1
        unfold bagV
        rw [if_pos HO.out]
        exact h1)
      clear hbg hbl hfull
      go_wp2
      go_ret2
      exact ⟨_, by rw [HO.out]; rfl, FIN.out, HG3.out.trans HGR.out⟩

set_option maxRecDepth 100000 in
set_option maxHeartbeats 4000000 in
theorem Faces_any (v v2 : Value) (s : TSet) (ts : List Int) (w : World) (h : IsSet w v s) (h2 : IsInts w v2 ts) (hz : RangeZ ts) (hl : ts.length ≤ 1000000) : Calls Try.prog 64 #[v, v2] w (FcsRes w s ts) := by
  have hfin : ∀ r wf, onceErr s ts = r → r ≠ 0 → Grow w wf → FcsRes w s ts (.returned (.tuple #[.slice none 0 0, .int .i64 r])) wf := fun r wf h hne hg => ⟨_, by rw [h], by unfold facesV; rw [if_neg (by rw [h]; exact hne)]; exact IsFaces.nil, hg⟩
  have HF := hid hfin
  clear hfin
  have ON := fun W (hg : Grow w W) => once_any v v2 s ts W (h.grow hg) (h2.grow hg)
  have KN := fun W (hg : Grow w W) => count_any v s W (h.grow hg)
  have KD := hid (fun W (hg : Grow w W) t (ht : -9223372036854775808 ≤ t ∧ t ≤ 9223372036854775807) => Kind_any v s t W (h.grow hg) ht.1 ht.2)
  have RD := hid (fun W (hg : Grow w W) t (ht : -9223372036854775808 ≤ t ∧ t ≤ 9223372036854775807) => Red_any v s t W (h.grow hg) ht.1 ht.2)
  have HZ := hid hz
  clear hz
  obtain ⟨A2, e2, rfl, q1, q2, rT⟩ := h2
  unfold maxLen at q2
  have HRT := hid rT
  clear rT
  have HI := hid h
  obtain ⟨A, c, B, d, rfl, h1, h2⟩ := h.open_
  obtain ⟨_, _, e1, c1, m1, r1⟩ := h1
  obtain ⟨_, _, e2, d1, m2, r2⟩ := h2
  injection e1 with e1 _ e1'
  injection e2 with e2 _ e2'
  subst e1 e1' e2 e2'
  unfold maxLen at m1 m2
  have HG0 := hid (show Grow w (w.alloc (.cells #[.int .i64 s.pl, .slice A s.su.length c, .int .i64 s.wi, .int .i64 s.dr, .int .i64 s.fl, .int .i64 s.co, .int .i64 s.me, .int .i64 s.de, .slice B s.re.length d] 24)) from (Grow.refl w).alloc _)
  have HB0 := hid (show Blk (w.alloc (.cells #[.int .i64 s.pl, .slice A s.su.length c, .int .i64 s.wi, .int .i64 s.dr, .int .i64 s.fl, .int .i64 s.co, .int .i64 s.me, .int .i64 s.de, .slice B s.re.length d] 24)) w.heap.size 24 (setVals s (.slice A s.su.length c) (.slice B s.re.length d)) from heap_alloc_new w _)
  clear h
  by_cases ho : onceErr s ts = 0
  case neg =>
    have ne : (onceErr s ts != 0) = true := by simp [ho]
    have HN := hid ho
    have ON := hid ON
    clear ho KN
    generalize onceErr s ts = n at *
    go_enter Try.func64, Try.ntmps64
    go_wp2_with (first | (go_at_call 81; refine (ON.out _ HG0.out).mono ?_; rintro e w2 ⟨rfl, hg2⟩; have hgg := HG0.out.trans hg2; have hb2 := HB0.out.grow hg2; obtain ⟨y0, y1, y2, y3, y4, y5, y6, y7, y8⟩ := set_cells hb2))
    go_ret2
    exact HF.out _ _ rfl HN.out hgg
  obtain ⟨e, hd⟩ := onceErr_ok ho
  have HO := hid ho
  rw [ho] at ON
  have ON := hid ON
  have OK := hid (dupE_ok hd)
  have V := valid_of e
  have hpl := V.plain
  have hco := V.co
  have hK := kinds_ok e
  rw [hK] at KN
  have KN := hid KN
  have HE0 := hid e
  have HK := hid hK
  clear V hK hd e ho
  obtain ⟨n, hn⟩ := Int.eq_ofNat_of_zero_le (show 0 ≤ plainI s by omega)
  have HNN := hid hn
  go_enter Try.func64, Try.ntmps64
  go_wp2_with (first | (go_at_call 81; refine (ON.out _ HG0.out).mono ?_; rintro e w2 ⟨rfl, hg2⟩; have hgg := HG0.out.trans hg2; have hb2 := HB0.out.grow hg2; obtain ⟨y0, y1, y2, y3, y4, y5, y6, y7, y8⟩ := set_cells hb2))
  have HB2 := hid hb2
  have HG2 := hid hgg
  clear y0 y1 y2 y3 y4 y5 y6 y7 y8 hg2 hgg hb2
  go_loopw [7, 18] (fun v i wr => ∃ k : Nat, k ≤ ts.length ∧ i = .int .i64 (k : Int) ∧ OwnF w2 wr v (facesI s (ts.take k)) ∧ Grow w2 wr) (fun _ i _ => ts.length - (intOf i).toNat)
  case atStart => exact ⟨0, Nat.zero_le _, rfl, OwnF.nil, Grow.refl _⟩
  case round =>
    obtain ⟨k, hk, rfl, hof, hgr⟩ := hrel
    have HOF := hid hof
    have HGR := hid hgr
    clear hof
    by_cases hlt : k < ts.length
    · obtain ⟨ad, rfl, hb, x0⟩ := (HRT.out.grow (HG2.out.trans hgr)).int hlt
      have i0 : (0 : Int) ≤ (k : Int) := by omega
      have i1 : (k : Int) < (ts.length : Int) := by omega
      have hrg := HZ.out ts[k] (List.getElem_mem hlt)
      have HT := hid (show facesI s (ts.take (k + 1)) = facesI s (ts.take k) ++ [(kindI s ts[k], redB s ts[k])] by rw [List.take_succ_eq_append_getElem hlt, facesI_snoc])
      have KK := hid (fun W (hg : Grow w W) => KD.out W hg ts[k] hrg)
      have RR := hid (fun W (hg : Grow w W) => RD.out W hg ts[k] hrg)
      have hfl : (facesI s (ts.take k)).length ≤ 1000000000 := by simp [facesI]; omega
      have KX := fun W (hg : Grow w2 W) => (HRT.out.grow (HG2.out.trans hg)).int hlt
      have KS := hid (fun W (hg : Grow w2 W) => And.intro hg (And.intro (show W.cell? (ad.add k) = some (.int .i64 ts[k]) by
        obtain ⟨ad', e9, _, hc⟩ := KX W hg
        rw [Option.some.inj e9]; exact hc) (set_cells (HB2.out.grow hg))))
      clear KX
      have AP := hid (fun W (hg : Grow w2 W) v (ho : OwnF w2 W v (facesI s (ts.take k))) => run_append_face w2 W 25 25 Try.underlying25 (kindI s ts[k], redB s ts[k]) v _ ho hfl hg)
      generalize ts[k] = t at *
      generalize kindI s t = kd at *
      generalize redB s t = rd at *
      clear HRT
      obtain ⟨-, z0, z1, z2, z3, z4, z5, z6, z7, z8, z9⟩ := KS.out _ hgr
      go_wp2
      clear z0 z1 z2 z3 z4 z5 z6 z7 z8 z9
      go_region_held3 (fun W => Grow w2 W ∧ W.cell? (ad.add k) = some (.int .i64 t) ∧ W.cell? ⟨w.heap.size, 0, none⟩ = some (.int .i64 s.pl) ∧ W.cell? ⟨w.heap.size, 1, none⟩ = some (.slice A s.su.length c) ∧ W.cell? ⟨w.heap.size, 2, none⟩ = some (.int .i64 s.wi) ∧ W.cell? ⟨w.heap.size, 3, none⟩ = some (.int .i64 s.dr) ∧ W.cell? ⟨w.heap.size, 4, none⟩ = some (.int .i64 s.fl) ∧ W.cell? ⟨w.heap.size, 5, none⟩ = some (.int .i64 s.co) ∧ W.cell? ⟨w.heap.size, 6, none⟩ = some (.int .i64 s.me) ∧ W.cell? ⟨w.heap.size, 7, none⟩ = some (.int .i64 s.de) ∧ W.cell? ⟨w.heap.size, 8, none⟩ = some (.slice B s.re.length d))
        (exact KS.out _ (by first | assumption | exact hgr | exact hgr.drew | exact Grow.alloc (by first | assumption | exact (hgr.trans hk7)) _))
        (first
          | (go_at_call 55; refine (KK.out _ (HG2.out.trans hgr.drew)).mono ?_; rintro e w6 ⟨rfl, hg6⟩; have hk6 : Grow wr w6 := (Grow.refl wr).drew.trans hg6; have hj6 := hgr.trans hk6)
          | (go_at_call 57; refine (RR.out _ (HG2.out.trans (hgr.trans hk6))).mono ?_; rintro e w7 ⟨rfl, hg7⟩; have hk7 := hk6.trans hg7; have hj7 := hgr.trans hk7; obtain ⟨v8, w8, hrun, ho8, hg8, -⟩ := AP.out _ (hgr.trans hk7) _ (HOF.out.kept hk7); have HRUN := hid hrun; have HO8 := hid ho8; clear hrun ho8)
          | (refine step_append_run rfl (.tmp 22) (.tmp 30) _ (by rfl) (by rfl) (by rfl) HRUN.out ?_))
      all_goals
        go_wp2
        exact ⟨⟨k + 1, by omega, by go_num, by rw [HT.out]; exact HO8.out, hg8⟩, by simp only [intOf]; omega⟩
    · have ge : ¬ (k : Int) < (ts.length : Int) := by omega
      have FIN := hid (show IsFaces wr _ (facesV s ts) by
        have h1 := HOF.out.is
        rw [List.take_of_length_le (by omega)] at h1
        unfold facesV
        rw [if_pos HO.out]
        exact h1)
      go_wp2
      go_ret2
      exact ⟨_, by rw [HO.out]; rfl, FIN.out, HG2.out.trans HGR.out⟩

set_option maxRecDepth 100000 in
set_option maxHeartbeats 4000000 in
theorem rBag_any (v v2 : Value) (s : TSet) (ts : List Int) (w : World) (h : IsSet w v s) (h2 : IsInts w v2 ts) (hz : RangeZ ts) (hl : ts.length ≤ 1000000) : Calls Try.prog 63 #[v, v2] w (BagRes w s ts) := by
  have hfin : ∀ r wf, onceErr s ts = r → r ≠ 0 → Grow w wf → BagRes w s ts (.returned (.tuple #[.slice none 0 0, .int .i64 r])) wf := fun r wf h hne hg => ⟨_, by rw [h], by unfold bagV; rw [if_neg (by rw [h]; exact hne)]; exact IsInts.nil, hg⟩
  have HF := hid hfin
  clear hfin
  have CH := fun W (hg : Grow w W) => rCheck_any v s W (h.grow hg)
  have CT := fun W (hg : Grow w W) (e : chkErr s = 0) => checkTiles_any v v2 s ts W (h.grow hg) (h2.grow hg) hz e
  have KN := fun W (hg : Grow w W) => rKinds_any v s W (h.grow hg)
  have KD := hid (fun W (hg : Grow w W) t (ht : -9223372036854775808 ≤ t ∧ t ≤ 9223372036854775807) => rKind_any v s t W (h.grow hg) ht.1 ht.2)
  have RD := hid (fun W (hg : Grow w W) t (ht : -9223372036854775808 ≤ t ∧ t ≤ 9223372036854775807) => rRed_any v s t W (h.grow hg) ht.1 ht.2)
  have HZ := hid hz
  clear hz
  obtain ⟨A2, e2, rfl, q1, q2, rT⟩ := h2
  unfold maxLen at q2
  have HRT := hid rT
  clear rT
  have HI := hid h
  obtain ⟨A, c, B, d, rfl, h1, h2⟩ := h.open_
  obtain ⟨_, _, e1, c1, m1, r1⟩ := h1
  obtain ⟨_, _, e2, d1, m2, r2⟩ := h2
  injection e1 with e1 _ e1'
  injection e2 with e2 _ e2'
  subst e1 e1' e2 e2'
  unfold maxLen at m1 m2
  have HG0 := hid (show Grow w (w.alloc (.cells #[.int .i64 s.pl, .slice A s.su.length c, .int .i64 s.wi, .int .i64 s.dr, .int .i64 s.fl, .int .i64 s.co, .int .i64 s.me, .int .i64 s.de, .slice B s.re.length d] 24)) from (Grow.refl w).alloc _)
  have HB0 := hid (show Blk (w.alloc (.cells #[.int .i64 s.pl, .slice A s.su.length c, .int .i64 s.wi, .int .i64 s.dr, .int .i64 s.fl, .int .i64 s.co, .int .i64 s.me, .int .i64 s.de, .slice B s.re.length d] 24)) w.heap.size 24 (setVals s (.slice A s.su.length c) (.slice B s.re.length d)) from heap_alloc_new w _)
  clear h
  by_cases e : chkErr s = 0
  case neg =>
    have HE := hid (show onceErr s ts = chkErr s by unfold onceErr; rw [if_pos e])
    have ne : (chkErr s != 0) = true := by simp [e]
    have ne2 : (chkErr s == 0) = false := by simp [e]
    have HN := hid e
    have CH := hid CH
    clear e CT KN
    generalize chkErr s = n at *
    go_enter Try.func63, Try.ntmps63
    go_wp2_with (first | (go_at_call 39; refine (CH.out _ HG0.out).mono ?_; rintro e w1 ⟨rfl, hg1⟩; have hg := HG0.out.trans hg1; have hb1 := HB0.out.grow hg1; obtain ⟨y0, y1, y2, y3, y4, y5, y6, y7, y8⟩ := set_cells hb1))
    go_ret2
    exact HF.out _ _ HE.out HN.out hg
  have CT := fun W (hg : Grow w W) => CT W hg e
  rw [e] at CH
  have CH := hid CH
  have HEE := hid (show onceErr s ts = dupE (sizeI s) [] ts by unfold onceErr; rw [if_neg (by omega)])
  by_cases hd : dupE (sizeI s) [] ts = 0
  case neg =>
    have HE := hid HEE.out
    have ne : (dupE (sizeI s) [] ts != 0) = true := by simp [hd]
    have HN := hid hd
    have CT := hid CT
    clear hd e KN
    generalize dupE (sizeI s) [] ts = n at *
    go_enter Try.func63, Try.ntmps63
    go_wp2_with (first | (go_at_call 39; refine (CH.out _ HG0.out).mono ?_; rintro e w1 ⟨rfl, hg1⟩; have hg := HG0.out.trans hg1; have hb1 := HB0.out.grow hg1; obtain ⟨y0, y1, y2, y3, y4, y5, y6, y7, y8⟩ := set_cells hb1) | (go_at_call 99; refine (CT.out _ hg).mono ?_; rintro e w2 ⟨rfl, hg2⟩; have hgg := hg.trans hg2; have hb2 := hb1.grow hg2; clear y0 y1 y2 y3 y4 y5 y6 y7 y8; obtain ⟨y0, y1, y2, y3, y4, y5, y6, y7, y8⟩ := set_cells hb2))
    go_ret2
    exact HF.out _ _ HE.out HN.out hgg
  have HO := hid (HEE.out.trans hd)
  rw [hd] at CT
  have CT := hid CT
  have OK := hid (dupE_ok hd)
  have V := valid_of e
  have hpl := V.plain
  have hco := V.co
  have hK := kinds_ok e
  rw [hK] at KN
  have KN := hid KN
  have HE0 := hid e
  have HK := hid hK
  clear V hK hd e
  obtain ⟨n, hn⟩ := Int.eq_ofNat_of_zero_le (show 0 ≤ plainI s by omega)
  have HNN := hid hn
  go_enter Try.func63, Try.ntmps63
  go_wp2_with (first | (go_at_call 39; refine (CH.out _ HG0.out).mono ?_; rintro e w1 ⟨rfl, hg1⟩; have hg := HG0.out.trans hg1; have hb1 := HB0.out.grow hg1; obtain ⟨y0, y1, y2, y3, y4, y5, y6, y7, y8⟩ := set_cells hb1) | (go_at_call 99; refine (CT.out _ hg).mono ?_; rintro e w2 ⟨rfl, hg2⟩; have hgg := hg.trans hg2; have hb2 := hb1.grow hg2; clear y0 y1 y2 y3 y4 y5 y6 y7 y8; obtain ⟨y0, y1, y2, y3, y4, y5, y6, y7, y8⟩ := set_cells hb2) | (go_at_call 41; refine (KN.out _ hgg).mono ?_; rintro e w3 ⟨rfl, hg3⟩; have hg33 := hgg.trans hg3; have hb3 := hb2.grow hg3) | (at_make; refine wpList_make_blk w3 _ rfl (.tmp 21) (.tmp 21) _ rfl 3 (.int .i64 0) 8 Try.underlying22 infoInt rfl _ _ _ _ n rfl rfl (by omega) (by omega) (by omega) (by omega) (Grow.refl _) ?_; intro G w4 bG hG0 hG1 hg4 _))
  have HB3 := hid hb3
  have HG3 := hid hg33
  have BG := hid (show Blk w4 G 3 (ints (bagI s [])) by rw [bagI_nil, HK.out, HNN.out]; simpa using bG)
  have HG4 := hid hg4
  have hnl : (plainI s).toNat = n := by omega
  clear y0 y1 y2 y3 y4 y5 y6 y7 y8 bG hg4 hg33 hb3 hg1 hg2 hg3 hgg hg hb1 hb2
  go_loopw [8] (fun i wr => ∃ k : Nat, k ≤ ts.length ∧ i = .int .i64 (k : Int) ∧ Blk wr G 3 (ints (bagI s (ts.take k))) ∧ Grow w3 wr) (fun i _ => ts.length - (intOf i).toNat)
  case atStart => exact ⟨0, Nat.zero_le _, rfl, by simpa using BG.out, HG4.out⟩
  case round =>
    obtain ⟨k, hk, rfl, hbg, hgr⟩ := hrel
    have HBG := hid hbg
    have HGR := hid hgr
    have hbl := bagI_length s (ts.take k)
    rw [HK.out] at hbl
    by_cases hlt : k < ts.length
    · obtain ⟨ad, rfl, hb, x0⟩ := (HRT.out.grow (HG3.out.trans hgr)).int hlt
      obtain ⟨y0, y1, y2, y3, y4, y5, y6, y7, y8⟩ := set_cells (HB3.out.grow hgr)
      have i0 : (0 : Int) ≤ (k : Int) := by omega
      have i1 : (k : Int) < (ts.length : Int) := by omega
      have hok := OK.out ts[k] (List.getElem_mem hlt)
      have hrg := HZ.out ts[k] (List.getElem_mem hlt)
      have hkq := kind_quo HE0.out hok.1 hok.2
      have HT := hid (show ts.take (k + 1) = ts.take k ++ [ts[k]] from List.take_succ_eq_append_getElem hlt)
      have KK := hid (fun W (hg : Grow w W) => KD.out W hg ts[k] hrg)
      have HIN := hid (fun (h0 : 0 ≤ kindI s ts[k]) (h1 : kindI s ts[k] < kindsI s) (h9 : (kindI s ts[k]).toNat < (bagI s (ts.take k)).length) => bagI_snoc_in (s := s) (ts := ts.take k) (t := ts[k]) h0 h1 h9)
      have HOUT := hid (fun (h9 : kindsI s ≤ kindI s ts[k]) => bagI_snoc_out (s := s) (ts := ts.take k) (t := ts[k]) h9)
      have hbb := fun i (hi : i < (bagI s (ts.take k)).length) => bagI_bound (s := s) (ts := ts.take k) hi
      generalize ts[k] = t at *
      clear hbg
      have KS := hid (fun W (hg : Grow wr W) => And.intro hg (And.intro (hg.cell_some x0) (set_cells ((HB3.out.grow hgr).grow hg))))
      have hkk0 := hkq.1
      have hkk1 := hkq.2.2.2.2.2
      clear y0 y1 y2 y3 y4 y5 y6 y7 y8 x0
      by_cases hp : kindI s t < plainI s
      · skip
        obtain ⟨q, hq⟩ := Int.eq_ofNat_of_zero_le (show 0 ≤ kindI s t by omega)
        have hql : q < (bagI s (ts.take k)).length := by rw [hbl]; omega
        have hbq := hbb q hql
        rw [List.length_take] at hbq
        have cG := HBG.out.cell_int hql
        have fG := HBG.out.free q
        have NEW := hid (show ints ((bagI s (ts.take k)).set q ((bagI s (ts.take k))[q] + 1)) = ints (bagI s (ts.take (k + 1))) by
          have hkt : (kindI s t).toNat = q := by omega
          rw [HT.out, HIN.out hkq.1 (by rw [HK.out]; omega) (by rw [hkt]; exact hql)]
          simp only [hkt])
        have HQ := hid hq
        have NB := hid (HBG.out.set_int q ((bagI s (ts.take k))[q] + 1))
        have hq0 : (0 : Int) ≤ (q : Int) := by omega
        have hq1 : (q : Int) < (n : Int) := by omega
        generalize (bagI s (ts.take k))[q] = bq at *
        clear hbb hkq hbl
        have cG2 := fun W (hg : Grow wr W) => hg.cell_some cG
        have fG2 := fun W (hg : Grow wr W) => (HBG.out.grow hg).free q
        have NB2 := hid (fun W (hg : Grow wr W) => (HBG.out.grow hg).set_int q (bq + 1))
        have CGF := hid (And.intro cG2 fG2)
        clear cG fG cG2 fG2
        rw [hq] at KK
        clear hq hp hkk0 hkk1
        go_wp2
        go_region_held3 (fun W => Grow wr W ∧ W.cell? (ad.add k) = some (.int .i64 t) ∧ W.cell? ⟨w.heap.size, 0, none⟩ = some (.int .i64 s.pl) ∧ W.cell? ⟨w.heap.size, 1, none⟩ = some (.slice A s.su.length c) ∧ W.cell? ⟨w.heap.size, 2, none⟩ = some (.int .i64 s.wi) ∧ W.cell? ⟨w.heap.size, 3, none⟩ = some (.int .i64 s.dr) ∧ W.cell? ⟨w.heap.size, 4, none⟩ = some (.int .i64 s.fl) ∧ W.cell? ⟨w.heap.size, 5, none⟩ = some (.int .i64 s.co) ∧ W.cell? ⟨w.heap.size, 6, none⟩ = some (.int .i64 s.me) ∧ W.cell? ⟨w.heap.size, 7, none⟩ = some (.int .i64 s.de) ∧ W.cell? ⟨w.heap.size, 8, none⟩ = some (.slice B s.re.length d))
          (exact KS.out _ (by first | assumption | exact (Grow.refl _).drew))
          ((go_at_call 56; have hS := (‹Grow wr _ ∧ _›).1; refine (KK.out _ (HG3.out.trans (hgr.trans hS))).mono ?_; rintro e w6 ⟨rfl, hg6⟩; have hk6 := hS.trans hg6))
        all_goals
          have cG := CGF.out.1 _ hk6
          have fG := CGF.out.2 _ hk6
          go_wp2
          exact ⟨⟨k + 1, by omega, by go_num, by rw [← NEW.out]; exact NB2.out _ hk6, (HGR.out.trans hk6).setBlk hG0 _ _⟩, by simp only [intOf]; omega⟩
      · have hge : ¬ kindI s t < (n : Int) := by omega
        have NEW := hid (HOUT.out (by rw [HK.out]; omega))
        clear hbb hkq hbl
        generalize kindI s t = kk at *
        go_wp2
        go_region_held3 (fun W => Grow wr W ∧ W.cell? (ad.add k) = some (.int .i64 t) ∧ W.cell? ⟨w.heap.size, 0, none⟩ = some (.int .i64 s.pl) ∧ W.cell? ⟨w.heap.size, 1, none⟩ = some (.slice A s.su.length c) ∧ W.cell? ⟨w.heap.size, 2, none⟩ = some (.int .i64 s.wi) ∧ W.cell? ⟨w.heap.size, 3, none⟩ = some (.int .i64 s.dr) ∧ W.cell? ⟨w.heap.size, 4, none⟩ = some (.int .i64 s.fl) ∧ W.cell? ⟨w.heap.size, 5, none⟩ = some (.int .i64 s.co) ∧ W.cell? ⟨w.heap.size, 6, none⟩ = some (.int .i64 s.me) ∧ W.cell? ⟨w.heap.size, 7, none⟩ = some (.int .i64 s.de) ∧ W.cell? ⟨w.heap.size, 8, none⟩ = some (.slice B s.re.length d))
          (exact KS.out _ (by first | assumption | exact (Grow.refl _).drew))
          ((go_at_call 56; have hS := (‹Grow wr _ ∧ _›).1; refine (KK.out _ (HG3.out.trans (hgr.trans hS))).mono ?_; rintro e w6 ⟨rfl, hg6⟩; have hk6 := hS.trans hg6))
        all_goals
          go_wp2
          exact ⟨⟨k + 1, by omega, by go_num, by rw [HT.out, NEW.out]; exact HBG.out.grow hk6, HGR.out.trans hk6⟩, by simp only [intOf]; omega⟩
    · have ge : ¬ (k : Int) < (ts.length : Int) := by omega
      have hfull : ts.take k = ts := List.take_of_length_le (by omega)
      have FIN := hid (show IsInts wr (.slice (some ⟨G, 0, none⟩) n n) (bagV s ts) by
        have h1 := HBG.out.is (by rw [hbl, hnl]; unfold maxLen; omega)
        rw [hbl, hnl, hfull] at h1
        unfold bagV
        rw [if_pos HO.out]
        exact h1)
      clear hbg hbl hfull
      go_wp2
      go_ret2
      exact ⟨_, by rw [HO.out]; rfl, FIN.out, HG3.out.trans HGR.out⟩

set_option maxRecDepth 100000 in
set_option maxHeartbeats 4000000 in
theorem rFaces_any (v v2 : Value) (s : TSet) (ts : List Int) (w : World) (h : IsSet w v s) (h2 : IsInts w v2 ts) (hz : RangeZ ts) (hl : ts.length ≤ 1000000) : Calls Try.prog 65 #[v, v2] w (FcsRes w s ts) := by
  have hfin : ∀ r wf, onceErr s ts = r → r ≠ 0 → Grow w wf → FcsRes w s ts (.returned (.tuple #[.slice none 0 0, .int .i64 r])) wf := fun r wf h hne hg => ⟨_, by rw [h], by unfold facesV; rw [if_neg (by rw [h]; exact hne)]; exact IsFaces.nil, hg⟩
  have HF := hid hfin
  clear hfin
  have CH := fun W (hg : Grow w W) => rCheck_any v s W (h.grow hg)
  have CT := fun W (hg : Grow w W) (e : chkErr s = 0) => checkTiles_any v v2 s ts W (h.grow hg) (h2.grow hg) hz e
  have KN := fun W (hg : Grow w W) => rKinds_any v s W (h.grow hg)
  have KD := hid (fun W (hg : Grow w W) t (ht : -9223372036854775808 ≤ t ∧ t ≤ 9223372036854775807) => rKind_any v s t W (h.grow hg) ht.1 ht.2)
  have RD := hid (fun W (hg : Grow w W) t (ht : -9223372036854775808 ≤ t ∧ t ≤ 9223372036854775807) => rRed_any v s t W (h.grow hg) ht.1 ht.2)
  have HZ := hid hz
  clear hz
  obtain ⟨A2, e2, rfl, q1, q2, rT⟩ := h2
  unfold maxLen at q2
  have HRT := hid rT
  clear rT
  have HI := hid h
  obtain ⟨A, c, B, d, rfl, h1, h2⟩ := h.open_
  obtain ⟨_, _, e1, c1, m1, r1⟩ := h1
  obtain ⟨_, _, e2, d1, m2, r2⟩ := h2
  injection e1 with e1 _ e1'
  injection e2 with e2 _ e2'
  subst e1 e1' e2 e2'
  unfold maxLen at m1 m2
  have HG0 := hid (show Grow w (w.alloc (.cells #[.int .i64 s.pl, .slice A s.su.length c, .int .i64 s.wi, .int .i64 s.dr, .int .i64 s.fl, .int .i64 s.co, .int .i64 s.me, .int .i64 s.de, .slice B s.re.length d] 24)) from (Grow.refl w).alloc _)
  have HB0 := hid (show Blk (w.alloc (.cells #[.int .i64 s.pl, .slice A s.su.length c, .int .i64 s.wi, .int .i64 s.dr, .int .i64 s.fl, .int .i64 s.co, .int .i64 s.me, .int .i64 s.de, .slice B s.re.length d] 24)) w.heap.size 24 (setVals s (.slice A s.su.length c) (.slice B s.re.length d)) from heap_alloc_new w _)
  clear h
  by_cases e : chkErr s = 0
  case neg =>
    have HE := hid (show onceErr s ts = chkErr s by unfold onceErr; rw [if_pos e])
    have ne : (chkErr s != 0) = true := by simp [e]
    have ne2 : (chkErr s == 0) = false := by simp [e]
    have HN := hid e
    have CH := hid CH
    clear e CT KN
    generalize chkErr s = n at *
    go_enter Try.func65, Try.ntmps65
    go_wp2_with (first | (go_at_call 39; refine (CH.out _ HG0.out).mono ?_; rintro e w1 ⟨rfl, hg1⟩; have hg := HG0.out.trans hg1; have hb1 := HB0.out.grow hg1; obtain ⟨y0, y1, y2, y3, y4, y5, y6, y7, y8⟩ := set_cells hb1))
    go_ret2
    exact HF.out _ _ HE.out HN.out hg
  have CT := fun W (hg : Grow w W) => CT W hg e
  rw [e] at CH
  have CH := hid CH
  have HEE := hid (show onceErr s ts = dupE (sizeI s) [] ts by unfold onceErr; rw [if_neg (by omega)])
  by_cases hd : dupE (sizeI s) [] ts = 0
  case neg =>
    have HE := hid HEE.out
    have ne : (dupE (sizeI s) [] ts != 0) = true := by simp [hd]
    have HN := hid hd
    have CT := hid CT
    clear hd e KN
    generalize dupE (sizeI s) [] ts = n at *
    go_enter Try.func65, Try.ntmps65
    go_wp2_with (first | (go_at_call 39; refine (CH.out _ HG0.out).mono ?_; rintro e w1 ⟨rfl, hg1⟩; have hg := HG0.out.trans hg1; have hb1 := HB0.out.grow hg1; obtain ⟨y0, y1, y2, y3, y4, y5, y6, y7, y8⟩ := set_cells hb1) | (go_at_call 99; refine (CT.out _ hg).mono ?_; rintro e w2 ⟨rfl, hg2⟩; have hgg := hg.trans hg2; have hb2 := hb1.grow hg2; clear y0 y1 y2 y3 y4 y5 y6 y7 y8; obtain ⟨y0, y1, y2, y3, y4, y5, y6, y7, y8⟩ := set_cells hb2))
    go_ret2
    exact HF.out _ _ HE.out HN.out hgg
  have HO := hid (HEE.out.trans hd)
  rw [hd] at CT
  have CT := hid CT
  have OK := hid (dupE_ok hd)
  have V := valid_of e
  have hpl := V.plain
  have hco := V.co
  have hK := kinds_ok e
  rw [hK] at KN
  have KN := hid KN
  have HE0 := hid e
  have HK := hid hK
  clear V hK hd e
  obtain ⟨n, hn⟩ := Int.eq_ofNat_of_zero_le (show 0 ≤ plainI s by omega)
  have HNN := hid hn
  go_enter Try.func65, Try.ntmps65
  go_wp2_with (first | (go_at_call 39; refine (CH.out _ HG0.out).mono ?_; rintro e w1 ⟨rfl, hg1⟩; have hg := HG0.out.trans hg1; have hb1 := HB0.out.grow hg1; obtain ⟨y0, y1, y2, y3, y4, y5, y6, y7, y8⟩ := set_cells hb1) | (go_at_call 99; refine (CT.out _ hg).mono ?_; rintro e w2 ⟨rfl, hg2⟩; have hgg := hg.trans hg2; have hb2 := hb1.grow hg2; clear y0 y1 y2 y3 y4 y5 y6 y7 y8; obtain ⟨y0, y1, y2, y3, y4, y5, y6, y7, y8⟩ := set_cells hb2))
  have HB2 := hid hb2
  have HG2 := hid hgg
  clear y0 y1 y2 y3 y4 y5 y6 y7 y8 hg1 hg2 hgg hg hb1 hb2
  go_loopw [7, 8] (fun v i wr => ∃ k : Nat, k ≤ ts.length ∧ i = .int .i64 (k : Int) ∧ OwnF w2 wr v (facesI s (ts.take k)) ∧ Grow w2 wr) (fun _ i _ => ts.length - (intOf i).toNat)
  case atStart => exact ⟨0, Nat.zero_le _, rfl, OwnF.nil, Grow.refl _⟩
  case round =>
    obtain ⟨k, hk, rfl, hof, hgr⟩ := hrel
    have HOF := hid hof
    have HGR := hid hgr
    clear hof
    by_cases hlt : k < ts.length
    · obtain ⟨ad, rfl, hb, x0⟩ := (HRT.out.grow (HG2.out.trans hgr)).int hlt
      have i0 : (0 : Int) ≤ (k : Int) := by omega
      have i1 : (k : Int) < (ts.length : Int) := by omega
      have hrg := HZ.out ts[k] (List.getElem_mem hlt)
      have HT := hid (show facesI s (ts.take (k + 1)) = facesI s (ts.take k) ++ [(kindI s ts[k], redB s ts[k])] by rw [List.take_succ_eq_append_getElem hlt, facesI_snoc])
      have KK := hid (fun W (hg : Grow w W) => KD.out W hg ts[k] hrg)
      have RR := hid (fun W (hg : Grow w W) => RD.out W hg ts[k] hrg)
      have hfl : (facesI s (ts.take k)).length ≤ 1000000000 := by simp [facesI]; omega
      have KX := fun W (hg : Grow w2 W) => (HRT.out.grow (HG2.out.trans hg)).int hlt
      have KS := hid (fun W (hg : Grow w2 W) => And.intro hg (And.intro (show W.cell? (ad.add k) = some (.int .i64 ts[k]) by
        obtain ⟨ad', e9, _, hc⟩ := KX W hg
        rw [Option.some.inj e9]; exact hc) (set_cells (HB2.out.grow hg))))
      clear KX
      have AP := hid (fun W (hg : Grow w2 W) v (ho : OwnF w2 W v (facesI s (ts.take k))) => run_append_face w2 W 25 25 Try.underlying25 (kindI s ts[k], redB s ts[k]) v _ ho hfl hg)
      generalize ts[k] = t at *
      generalize kindI s t = kd at *
      generalize redB s t = rd at *
      
      obtain ⟨-, z0, z1, z2, z3, z4, z5, z6, z7, z8, z9⟩ := KS.out _ hgr
      go_wp2
      clear z0 z1 z2 z3 z4 z5 z6 z7 z8 z9
      go_region_held3 (fun W => Grow w2 W ∧ W.cell? (ad.add k) = some (.int .i64 t) ∧ W.cell? ⟨w.heap.size, 0, none⟩ = some (.int .i64 s.pl) ∧ W.cell? ⟨w.heap.size, 1, none⟩ = some (.slice A s.su.length c) ∧ W.cell? ⟨w.heap.size, 2, none⟩ = some (.int .i64 s.wi) ∧ W.cell? ⟨w.heap.size, 3, none⟩ = some (.int .i64 s.dr) ∧ W.cell? ⟨w.heap.size, 4, none⟩ = some (.int .i64 s.fl) ∧ W.cell? ⟨w.heap.size, 5, none⟩ = some (.int .i64 s.co) ∧ W.cell? ⟨w.heap.size, 6, none⟩ = some (.int .i64 s.me) ∧ W.cell? ⟨w.heap.size, 7, none⟩ = some (.int .i64 s.de) ∧ W.cell? ⟨w.heap.size, 8, none⟩ = some (.slice B s.re.length d))
        (exact KS.out _ (by first | assumption | exact hgr | exact hgr.drew | exact Grow.alloc (by first | assumption | exact (hgr.trans hk7)) _))
        (first
          | (go_at_call 56; refine (KK.out _ (HG2.out.trans hgr.drew)).mono ?_; rintro e w6 ⟨rfl, hg6⟩; have hk6 : Grow wr w6 := (Grow.refl wr).drew.trans hg6; have hj6 := hgr.trans hk6)
          | (go_at_call 58; refine (RR.out _ (HG2.out.trans (hgr.trans hk6))).mono ?_; rintro e w7 ⟨rfl, hg7⟩; have hk7 := hk6.trans hg7; have hj7 := hgr.trans hk7; obtain ⟨v8, w8, hrun, ho8, hg8, -⟩ := AP.out _ (hgr.trans hk7) _ (HOF.out.kept hk7); have HRUN := hid hrun; have HO8 := hid ho8; clear hrun ho8)
          | (refine step_append_run rfl (.tmp 25) (.tmp 39) _ (by rfl) (by rfl) (by rfl) HRUN.out ?_))
      all_goals
        go_wp2
        exact ⟨⟨k + 1, by omega, by go_num, by rw [HT.out]; exact HO8.out, hg8⟩, by simp only [intOf]; omega⟩
    · have ge : ¬ (k : Int) < (ts.length : Int) := by omega
      have FIN := hid (show IsFaces wr _ (facesV s ts) by
        have h1 := HOF.out.is
        rw [List.take_of_length_le (by omega)] at h1
        unfold facesV
        rw [if_pos HO.out]
        exact h1)
      go_wp2
      go_ret2
      exact ⟨_, by rw [HO.out]; rfl, FIN.out, HG2.out.trans HGR.out⟩
end Go.Proofs.Ytjiahcfegfimmaa
