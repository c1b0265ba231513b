/-
  Parts of the proof: Tot, ChkH, Cnt.
-/
import Derived.Test.YthblfhgofopcaaaGreatHA14
import Derived.Test.YthblfhgofopcaaaGreatHA27
import Derived.Test.YthblfhgofopcaaaGreatHA28
import Derived.Test.YthblfhgofopcaaaGreatHA24
import Derived.Deep.QuietTactic
import Derived.BigQuiet
set_option linter.all false
namespace Go.Proofs.YthblfhgofopcaaaGreat
open Go.RowKit
theorem sumI_sum (l : List Int) : sumI l = l.sum := by
 induction l with
 | nil => simp [sumI]
 | cons x l ih => rw [sumI_cons, List.sum_cons, ih]
theorem sum_nonneg' : ∀ {l : List Int}, (∀ z ∈ l, 0 ≤ z) → 0 ≤ l.sum
 | [], _ => by simp
 | x :: l, h => by
  have h1 := h x (by simp)
  have := sum_nonneg' (l := l) fun z hz => h z (by simp [hz])
  simp; omega
theorem sum_take_le : ∀ (l : List Int) (n : Nat), (∀ z ∈ l, 0 ≤ z) → (l.take n).sum ≤ l.sum
 | [], n, _ => by simp
 | x :: l, 0, h => by
  have h1 := h x (by simp)
  have := sum_take_le l 0 fun z hz => h z (by simp [hz])
  simp at this ⊢; omega
 | x :: l, n + 1, h => by
  have := sum_take_le l n fun z hz => h z (by simp [hz])
  simp; omega
theorem runs_in {s : TSet} {k : Int} (h : runsB s k = true) : 0 ≤ k ∧ k + 2 < kindsI s := by
 unfold runsB at h
 simp only [Bool.and_eq_true, decide_eq_true_eq] at h
 obtain ⟨h1, h2⟩ := h
 cases place_is s k with
 | none e => rw [e] at h1; simp at h1
 | other _ su r e hs => rw [e] at h1; simp only at h1; omega
 | suit e j r e2 hj hr hk =>
  rw [e2] at h2
  simp only at h2
  rw [lenI_suit hj] at h2
  have V := valid_of e
  have hs : ∀ z ∈ s.su, 0 ≤ z := fun z hz => by have := V.su z hz; omega
  have h3 := sum_take_le s.su (j + 1) hs
  rw [List.take_succ_eq_append_getElem hj, List.sum_append] at h3
  have h4 : 0 ≤ (s.su.take j).sum := sum_nonneg' fun z hz => hs z (List.mem_of_mem_take hz)
  rw [kinds_ok e]
  unfold plainI
  have := V.wi; have := V.dr
  rw [sumI_sum] at hk ⊢
  simp at h3
  omega
def inc1 (bag : List Int) (z : Int) : List Int := bag.set z.toNat (bag.getD z.toNat 0 + 1)
def incL (bag : List Int) (ks : List Int) : List Int := ks.foldl inc1 bag
def totL (bag : List Int) (me : List Gp) : List Int := me.foldl (fun b g => incL b (tilesL g.wh g.kd)) bag
theorem inc1_len (bag : List Int) (z : Int) : (inc1 bag z).length = bag.length := by simp [inc1]
theorem incL_len : ∀ (ks bag : List Int), (incL bag ks).length = bag.length
 | [], bag => rfl
 | k :: ks, bag => by show (incL (inc1 bag k) ks).length = _; rw [incL_len ks, inc1_len]
theorem inc1_get {bag : List Int} {z : Int} (h0 : 0 ≤ z) (h1 : z < (bag.length : Int)) (i : Nat) : (inc1 bag z).getD i 0 = bag.getD i 0 + if z = (i : Int) then 1 else 0 := by
 unfold inc1
 rw [bget_set _ _ _ _ (by omega)]
 by_cases h : z = (i : Int)
 ·subst h; simp
 ·rw [if_neg (by omega), if_neg h]; simp
theorem incL_get : ∀ (ks bag : List Int), InB bag.length ks → ∀ i, (incL bag ks).getD i 0 = bag.getD i 0 + cntI ks i
 | [], bag, _, i => by simp [incL, cntI]
 | k :: ks, bag, h, i => by
  show (incL (inc1 bag k) ks).getD i 0 = _
  have hk := h k (by simp)
  rw [incL_get ks _ (fun z hz => by rw [inc1_len]; exact h z (by simp [hz])) i, inc1_get hk.1 hk.2, cntI_cons]; omega
theorem totL_len : ∀ (me : List Gp) (bag : List Int), (totL bag me).length = bag.length
 | [], bag => rfl
 | g :: me, bag => by show (totL (incL bag (tilesL g.wh g.kd)) me).length = _; rw [totL_len me, incL_len]
theorem totL_get : ∀ (me : List Gp) (bag : List Int), (∀ g ∈ me, InB bag.length (tilesL g.wh g.kd)) → ∀ i, (totL bag me).getD i 0 = bag.getD i 0 + cntT me i
 | [], bag, _, i => by simp [totL, cntT]
 | g :: me, bag, h, i => by
  show (totL (incL bag (tilesL g.wh g.kd)) me).getD i 0 = _
  rw [totL_get me _ (fun y hy => by rw [incL_len]; exact h y (by simp [hy])) i, incL_get _ _ (h g (by simp)), cntT]
  show _ + cntG g i + _ = _
  omega
theorem cntI_le (ks : List Int) (i : Nat) : cntI ks i ≤ ks.length := by unfold cntI; have := List.count_le_length (a := (i : Int)) (l := ks); omega
theorem tilesL_len (a k : Int) : (tilesL a k).length ≤ 4 := by unfold tilesL; (repeat' split) <;> simp
theorem cntT_le : ∀ (me : List Gp) (i : Nat), cntT me i ≤ 4 * me.length
 | [], i => by simp [cntT]
 | g :: me, i => by
  have h1 := cntT_le me i
  have h2 : cntG g i ≤ _ := cntI_le (tilesL g.wh g.kd) i
  have h3 := tilesL_len g.wh g.kd
  simp only [cntT, List.length_cons]; omega
theorem set_mapI (l : List Int) (i : Nat) (v : Int) : (l.map I).set i (I v) = (l.set i v).map I := (List.map_set ..).symm
theorem incL_take (X ks : List Int) {j : Nat} (h : j < ks.length) : inc1 (incL X (ks.take j)) ks[j] = incL X (ks.take (j + 1)) := by
 show _ = (ks.take (j + 1)).foldl inc1 X
 rw [List.take_succ_eq_append_getElem h, List.foldl_append]; rfl
theorem totL_take (X : List Int) (me : List Gp) {k : Nat} (h : k < me.length) : incL (totL X (me.take k)) (tilesL me[k].wh me[k].kd) = totL X (me.take (k + 1)) := by
 show _ = (me.take (k + 1)).foldl (fun b g => incL b (tilesL g.wh g.kd)) X
 rw [List.take_succ_eq_append_getElem h, List.foldl_append]; rfl
structure IncAt (X : List Int) (z : Int) : Prop where
 z0 : 0 ≤ z
 z1 : z < (X.length : Int)
 lt : z.toNat < X.length
 up : IntKind.i64.wrap (X[z.toNat] + 1) = X.getD z.toNat 0 + 1
 st : (X.map I).set z.toNat (I (X.getD z.toNat 0 + 1)) = (inc1 X z).map I
theorem incAt {X : List Int} {z : Int} (h0 : 0 ≤ z) (h1 : z < (X.length : Int)) (hX : ∀ i, -1000000000 ≤ X.getD i 0 ∧ X.getD i 0 ≤ 1000000000) : IncAt X z := by
 have hl : z.toNat < X.length := by omega
 have e : X[z.toNat] = X.getD z.toNat 0 := by simp [hl]
 have := hX z.toNat
 exact ⟨h0, h1, hl, by rw [e]; exact vwrap_in (by omega) (by omega), by rw [set_mapI]; rfl⟩
structure BagOk (s : TSet) (bag : List Int) (me : List Gp) : Prop where
 va : chkErr s = 0
 ln : (bag.length : Int) = kindsI s
 rg : ∀ i, 0 ≤ bag.getD i 0 ∧ bag.getD i 0 ≤ 1000
 gr : ∀ g ∈ me, grpErr s g.wh g.kd = 0
 ml : me.length ≤ 1000
theorem BagOk.inb {s : TSet} {bag : List Int} {me : List Gp} (h : BagOk s bag me) {g : Gp} (hg : g ∈ me) : InB bag.length (tilesL g.wh g.kd) := by
 obtain ⟨a1, a2, k1, k2, hr⟩ := grp_ok (h.gr g hg)
 have hl := h.ln
 intro z hz
 unfold tilesL at hz
 by_cases hw : g.wh = 1
 ·rw [if_pos hw] at hz
  have := runs_in (hr hw)
  simp at hz; omega
 ·rw [if_neg hw] at hz
  (repeat' split at hz) <;> simp at hz <;> omega
theorem BagOk.bd {s : TSet} {bag : List Int} {me : List Gp} (h : BagOk s bag me) {k : Nat} (hk : k ≤ me.length) (ks : List Int) (hks : InB bag.length ks) (hl : ks.length ≤ 4) (i : Nat) : -1000000000 ≤ (incL (totL bag (me.take k)) ks).getD i 0 ∧ (incL (totL bag (me.take k)) ks).getD i 0 ≤ 1000000000 := by
 rw [incL_get _ _ (by rw [totL_len]; exact hks), totL_get _ _ (fun g hg => h.inb (List.mem_of_mem_take hg))]
 have h1 := h.rg i
 have h2 := cntT_le (me.take k) i
 have h3 := cntT_nonneg (me.take k) i
 have h4 := cntI_le ks i
 have h5 := cntI_nonneg ks i
 have h6 := h.ml
 simp at h2
 omega
set_option maxRecDepth 100000
set_option maxHeartbeats 2000000
theorem own_total (s : TSet) (x : Hd) (b : BagOk s x.bag x.me) : AOwn Tryz.prog 106 [eSet s, eHd false x] (.rsl 0 1 0 x.bag.length) [(0, .arr 1 1 ((totL x.bag x.me).map I))] := by
 have hK := kinds_le b.va
 have hl := b.ln
 have hml := b.ml
 refine acall_of (nx := 0) (ne := 0) tysGood (DD_ok tysGood mixed _) Tryz.func106 (by rfl) (by rfl) (by simp [Tryz.ntmps106]) (fun p hp => by cases hp) ?_; rw [Tryz.ntmps106]; let tb := ord_106
 (have fa := zT; (repeat first | refine zG ?_ | ((with_reducible refine AW_seq ?_); intro K hK) | ((repeat (fail_if_success (refine hK _ ?_)); clear hK K); refine hK _ ?_; clear hK K)); (try clear fa))
 (have fa := zT; refine zWo (own_clone_ints x.bag (by omega)) ?_; (try clear fa))
 (have fa := zT; (repeat first | refine zG ?_ | ((with_reducible refine AW_seq ?_); intro K hK) | ((repeat (fail_if_success (refine hK _ ?_)); clear hK K); refine hK _ ?_; clear hK K)); (try clear fa))
 refine AW_for2 x.me.length (fun _ => True) (fun k => ⟨100, [(2, .ref 0 0 0 0), (5, .rsl 1 1 0 x.bag.length), (14, eGps false x.me), (15, I x.me.length), (16, I k)], [(0, .arr 0 9 [eSet s]), (1, .arr 1 1 ((totL x.bag (x.me.take k)).map I))]⟩) [(0, 0), (80, 1)] [(0, 0), (1, 1)] 0 [2, 5, 14, 15, 16] 100 (finOk0 (by decide) (by decide)) (finOk0 (by decide) (by decide)) trivial (by (have fa := zT; exact zV)) ?_
 intro k hk _ J hJ
 (have fa := zT; (repeat first | refine zG ?_ | ((with_reducible refine AW_seq ?_); intro K hK) | ((repeat (fail_if_success (refine hK _ ?_)); clear hK K); refine hK _ ?_; clear hK K)); (try clear fa))
 refine AW_cond rfl ⟨fun h => ?_, fun h => ?_⟩
 ·have hlt : k < x.me.length := by simpa using h
  clear h
  obtain ⟨g, hg⟩ : ∃ g, g = x.me[k] := ⟨_, rfl⟩
  have hgm : g ∈ x.me := by rw [hg]; exact List.getElem_mem hlt
  have hge := b.gr g hgm
  have ht : tilesI s g.wh g.kd = tilesL g.wh g.kd := by unfold tilesI; rw [if_pos ⟨b.va, hge⟩]
  have hin := b.inb hgm
  have hlen := tilesL_len g.wh g.kd
  have hT := totL_take x.bag x.me hlt
  rw [← hg] at hT
  have hL := totL_len (x.me.take k) x.bag
  (have fa := (And.intro hlt (Eq.symm hg)); (repeat first | refine zG ?_ | ((with_reducible refine AW_seq ?_); intro K hK) | ((repeat (fail_if_success (refine hK _ ?_)); clear hK K); refine hK _ ?_; clear hK K)); (try clear fa))
  have CT := says_Tiles s g
  rw [ht] at CT
  obtain ⟨X, hX⟩ : ∃ X, X = totL x.bag (x.me.take k) := ⟨_, rfl⟩
  rw [← hX] at hL hT
  obtain ⟨tl, htl⟩ : ∃ tl, tl = tilesL g.wh g.kd := ⟨_, rfl⟩
  rw [← htl] at hT CT hin hlen
  (have fa := zT; refine zW (CT) ?_; (try clear fa))
  (have fa := zT; (repeat first | refine zG ?_ | ((with_reducible refine AW_seq ?_); intro K hK) | ((repeat (fail_if_success (refine hK _ ?_)); clear hK K); refine hK _ ?_; clear hK K)); (try clear fa))
  refine AW_for2 tl.length (fun _ => True) (fun j => ⟨100, [(2, .ref 0 0 0 0), (5, .rsl 1 1 0 x.bag.length), (14, eGps false x.me), (15, I x.me.length), (16, I k), (22, eInts true tl), (23, I tl.length), (24, I j)], [(0, .arr 0 9 [eSet s]), (1, .arr 1 1 ((incL X (tl.take j)).map I))]⟩) [(0, 0), (1, 1)] [(0, 0), (1, 1)] 0 [2, 5, 14, 15, 16, 22, 23, 24] 100 (finOk0 (by decide) (by decide)) (finOk0 (by decide) (by decide)) trivial (by (have fa := (Eq.symm hX); exact zV)) ?_
  intro j hj _ J' hJ'
  (have fa := zT; (repeat first | refine zG ?_ | ((with_reducible refine AW_seq ?_); intro K hK) | ((repeat (fail_if_success (refine hK _ ?_)); clear hK K); refine hK _ ?_; clear hK K)); (try clear fa))
  refine AW_cond rfl ⟨fun h => ?_, fun h => ?_⟩
  ·have hlj : j < tl.length := by simpa using h
   clear h
   obtain ⟨z, hz⟩ : ∃ z, z = tl[j] := ⟨_, rfl⟩
   have hzi := hin z (by rw [hz]; exact List.getElem_mem hlj)
   have hI := incL_take X tl hlj
   rw [← hz] at hI
   have hY := incL_len (tl.take j) X
   have hbd := b.bd hk (tl.take j) (fun y hy => hin y (List.mem_of_mem_take hy)) (by simp; omega)
   rw [← hX] at hbd
   obtain ⟨Y, hYe⟩ : ∃ Y, Y = incL X (tl.take j) := ⟨_, rfl⟩
   rw [← hYe] at hI hY hbd
   have hYl : Y.length = x.bag.length := by omega
   have A := incAt (X := Y) (z := z) hzi.1 (by omega) hbd
   have a1 : z < (x.bag.length : Int) := hzi.2
   (have fa := (And.intro hlj (And.intro (Eq.symm hz) (And.intro (Eq.symm hYe) (And.intro A.z0 (And.intro a1 (And.intro A.lt (And.intro A.up (And.intro A.st (vwrap_succ (show j < 9223372036854775807 by omega)))))))))); (repeat first | refine zG ?_ | ((with_reducible refine AW_seq ?_); intro K hK) | ((repeat (fail_if_success (refine hK _ ?_)); clear hK K); refine hK _ ?_; clear hK K)); (try clear fa))
   refine hJ' _ hlj trivial (by (have fa := hI; exact zV))
  ·have hj' : j = tl.length := by have : ¬ j < tl.length := by simpa using h
                                  omega
   subst hj'
   clear h
   (have fa := (vwrap_succ (show k < 9223372036854775807 by omega)); (repeat first | refine zG ?_ | ((with_reducible refine AW_seq ?_); intro K hK) | ((repeat (fail_if_success (refine hK _ ?_)); clear hK K); refine hK _ ?_; clear hK K)); (try clear fa))
   refine hJ _ hlt trivial (by (have fa := hT; exact zV))
 ·have hk' : k = x.me.length := by have : ¬ k < x.me.length := by simpa using h
                                   omega
  subst hk'
  clear h
  (have fa := zT; (repeat first | refine zG ?_ | ((with_reducible refine AW_seq ?_); intro K hK) | ((repeat (fail_if_success (refine hK _ ?_)); clear hK K); refine hK _ ?_; clear hK K)); (try clear fa))
  refine AW_ret ?_; refine ⟨.inr rfl, ?_, [(1, 0)], 2, finOk0 (by decide) (by decide), ?_⟩ <;> (have fa := zT; first | exact zE0 | (refine zE ?_; try clear fa))
end Go.Proofs.YthblfhgofopcaaaGreat

namespace Go.Proofs.YthblfhgofopcaaaGreat
open Go.RowKit
set_option maxRecDepth 100000
set_option maxHeartbeats 2000000
theorem own_rtotal (s : TSet) (x : Hd) (b : BagOk s x.bag x.me) : AOwn Tryz.prog 102 [eHd false x] (.rsl 0 1 0 x.bag.length) [(0, .arr 1 1 ((totL x.bag x.me).map I))] := by
 have hK := kinds_le b.va
 have hl := b.ln
 have hml := b.ml
 have l1 : x.bag.length ≤ 1000000000000 := by omega
 refine acall_of (nx := 0) (ne := 0) tysGood (DD_ok tysGood mixed _) Tryz.func102 (by rfl) (by rfl) (by simp [Tryz.ntmps102]) (fun p hp => by cases hp) ?_; rw [Tryz.ntmps102]; let tb := ord_102
 (have fa := l1; (repeat first | refine zG ?_ | ((with_reducible refine AW_seq ?_); intro K hK) | ((repeat (fail_if_success (refine hK _ ?_)); clear hK K); refine hK _ ?_; clear hK K)); (try clear fa))
 refine AW_for2 x.me.length (fun _ => True) (fun k => ⟨100, [(1, .ref 0 0 0 0), (3, .rsl 1 1 0 x.bag.length), (4, I k)], [(0, .arr 0 2 [eHd false x]), (1, .arr 1 1 ((totL x.bag (x.me.take k)).map I))]⟩) [(0, 0), (32, 1)] [(0, 0), (1, 1)] 0 [1, 3, 4] 100 (finOk0 (by decide) (by decide)) (finOk0 (by decide) (by decide)) trivial (by (have fa := zT; exact zV)) ?_
 intro k hk _ J hJ
 (have fa := zT; (repeat first | refine zG ?_ | ((with_reducible refine AW_seq ?_); intro K hK) | ((repeat (fail_if_success (refine hK _ ?_)); clear hK K); refine hK _ ?_; clear hK K)); (try clear fa))
 refine AW_cond rfl ⟨fun h => ?_, fun h => ?_⟩
 ·have hlt : k < x.me.length := by simpa using h
  clear h
  obtain ⟨g, hg⟩ : ∃ g, g = x.me[k] := ⟨_, rfl⟩
  have hgm : g ∈ x.me := by rw [hg]; exact List.getElem_mem hlt
  have hge := b.gr g hgm
  have hin := b.inb hgm
  have hlen := tilesL_len g.wh g.kd
  have hT := totL_take x.bag x.me hlt
  rw [← hg] at hT
  have hL := totL_len (x.me.take k) x.bag
  (have fa := (And.intro hlt (Eq.symm hg)); (repeat first | refine zG ?_ | ((with_reducible refine AW_seq ?_); intro K hK) | ((repeat (fail_if_success (refine hK _ ?_)); clear hK K); refine hK _ ?_; clear hK K)); (try clear fa))
  have CT := says_rtiles g (grp_ok hge).2.2.1 (by have := (grp_ok hge).2.2.2.1; omega)
  obtain ⟨X, hX⟩ : ∃ X, X = totL x.bag (x.me.take k) := ⟨_, rfl⟩
  rw [← hX] at hL hT
  obtain ⟨tl, htl⟩ : ∃ tl, tl = tilesL g.wh g.kd := ⟨_, rfl⟩
  rw [← htl] at hT CT hin hlen
  (have fa := zT; refine zW (CT) ?_; (try clear fa))
  (have fa := zT; (repeat first | refine zG ?_ | ((with_reducible refine AW_seq ?_); intro K hK) | ((repeat (fail_if_success (refine hK _ ?_)); clear hK K); refine hK _ ?_; clear hK K)); (try clear fa))
  refine AW_for2 tl.length (fun _ => True) (fun j => ⟨100, [(1, .ref 0 0 0 0), (3, .rsl 1 1 0 x.bag.length), (4, I k), (5, eInts true tl), (6, I j)], [(0, .arr 0 2 [eHd false x]), (1, .arr 1 1 ((incL X (tl.take j)).map I))]⟩) [(0, 0), (1, 1)] [(0, 0), (1, 1)] 0 [1, 3, 4, 5, 6] 100 (finOk0 (by decide) (by decide)) (finOk0 (by decide) (by decide)) trivial (by (have fa := (Eq.symm hX); exact zV)) ?_
  intro j hj _ J' hJ'
  (have fa := zT; (repeat first | refine zG ?_ | ((with_reducible refine AW_seq ?_); intro K hK) | ((repeat (fail_if_success (refine hK _ ?_)); clear hK K); refine hK _ ?_; clear hK K)); (try clear fa))
  refine AW_cond rfl ⟨fun h => ?_, fun h => ?_⟩
  ·have hlj : j < tl.length := by simpa using h
   clear h
   obtain ⟨z, hz⟩ : ∃ z, z = tl[j] := ⟨_, rfl⟩
   have hzi := hin z (by rw [hz]; exact List.getElem_mem hlj)
   have hI := incL_take X tl hlj
   rw [← hz] at hI
   have hY := incL_len (tl.take j) X
   have hbd := b.bd hk (tl.take j) (fun y hy => hin y (List.mem_of_mem_take hy)) (by simp; omega)
   rw [← hX] at hbd
   obtain ⟨Y, hYe⟩ : ∃ Y, Y = incL X (tl.take j) := ⟨_, rfl⟩
   rw [← hYe] at hI hY hbd
   have A := incAt (X := Y) (z := z) hzi.1 (by omega) hbd
   have a1 : z < (x.bag.length : Int) := hzi.2
   (have fa := (And.intro hlj (And.intro (Eq.symm hz) (And.intro (Eq.symm hYe) (And.intro A.z0 (And.intro a1 (And.intro A.lt (And.intro A.up (And.intro A.st (vwrap_succ (show j < 9223372036854775807 by omega)))))))))); (repeat first | refine zG ?_ | ((with_reducible refine AW_seq ?_); intro K hK) | ((repeat (fail_if_success (refine hK _ ?_)); clear hK K); refine hK _ ?_; clear hK K)); (try clear fa))
   refine hJ' _ hlj trivial (by (have fa := hI; exact zV))
  ·have hj' : j = tl.length := by have : ¬ j < tl.length := by simpa using h
                                  omega
   subst hj'
   clear h
   (have fa := (vwrap_succ (show k < 9223372036854775807 by omega)); (repeat first | refine zG ?_ | ((with_reducible refine AW_seq ?_); intro K hK) | ((repeat (fail_if_success (refine hK _ ?_)); clear hK K); refine hK _ ?_; clear hK K)); (try clear fa))
   refine hJ _ hlt trivial (by (have fa := hT; exact zV))
 ·have hk' : k = x.me.length := by have : ¬ k < x.me.length := by simpa using h
                                   omega
  subst hk'
  clear h
  (have fa := zT; (repeat first | refine zG ?_ | ((with_reducible refine AW_seq ?_); intro K hK) | ((repeat (fail_if_success (refine hK _ ?_)); clear hK K); refine hK _ ?_; clear hK K)); (try clear fa))
  refine AW_ret ?_; refine ⟨.inr rfl, ?_, [(1, 0)], 2, finOk0 (by decide) (by decide), ?_⟩ <;> (have fa := zT; first | exact zE0 | (refine zE ?_; try clear fa))
def mldErr (s : TSet) : List Gp → Int
 | [] => 0
 | g :: l => if meldErr s g ≠ 0 then meldErr s g else mldErr s l
def mldsErr (s : TSet) (l : List Gp) : Int := if s.me < (l.length : Int) then 8 else mldErr s l
theorem mldErr_drop {s : TSet} {l : List Gp} {k : Nat} (h : k < l.length) : mldErr s (l.drop k) = if meldErr s l[k] ≠ 0 then meldErr s l[k] else mldErr s (l.drop (k + 1)) := by
 rw [List.drop_eq_getElem_cons h, mldErr]
theorem says_checkMelds (s : TSet) (l : List Gp) (hl : l.length ≤ 1000000) : ASays Tryz.prog 105 [eSet s, eGps false l] (I (mldsErr s l)) := by
 refine acall_of (nx := 0) (ne := 0) tysGood (DD_ok tysGood mixed _) Tryz.func105 (by rfl) (by rfl) (by simp [Tryz.ntmps105]) (fun p hp => by cases hp) ?_; rw [Tryz.ntmps105]; let tb := ord_105
 (have fa := zT; (repeat first | refine zG ?_ | ((with_reducible refine AW_seq ?_); intro K hK) | ((repeat (fail_if_success (refine hK _ ?_)); clear hK K); refine hK _ ?_; clear hK K)); (try clear fa))
 refine AW_cond rfl ⟨fun h => ?_, fun h => ?_⟩
 ·have h1 : s.me < (l.length : Int) := by simpa using h
  (have fa := zT; (repeat first | refine zG ?_ | ((with_reducible refine AW_seq ?_); intro K hK) | ((repeat (fail_if_success (refine hK _ ?_)); clear hK K); refine hK _ ?_; clear hK K)); (try clear fa))
  refine AW_ret ?_; refine ⟨.inr rfl, ?_, [], 2, finOk_nil, ?_⟩ <;> (have fa := zT; first | exact zE0 | (refine zE ?_; try clear fa))
  simp [mldsErr, h1]
 ·have h1 : ¬ s.me < (l.length : Int) := by simpa using h
  clear h
  have hm : mldsErr s l = mldErr s l := by simp [mldsErr, h1]
  (have fa := zT; (repeat first | refine zG ?_ | ((with_reducible refine AW_seq ?_); intro K hK) | ((repeat (fail_if_success (refine hK _ ?_)); clear hK K); refine hK _ ?_; clear hK K)); (try clear fa))
  refine AW_for2 l.length (fun k => mldErr s l = mldErr s (l.drop k)) (fun k => ⟨100, [(2, .ref 0 0 0 0), (13, eGps false l), (14, I l.length), (15, I k)], [(0, .arr 0 9 [eSet s])]⟩) [(0, 0)] [(0, 0)] 0 [2, 13, 14, 15] 100 (finOk0 (by decide) (by decide)) (finOk0 (by decide) (by decide)) rfl (by (have fa := zT; exact zV)) ?_
  intro k hk hR J hJ
  (have fa := zT; (repeat first | refine zG ?_ | ((with_reducible refine AW_seq ?_); intro K hK) | ((repeat (fail_if_success (refine hK _ ?_)); clear hK K); refine hK _ ?_; clear hK K)); (try clear fa))
  refine AW_cond rfl ⟨fun h => ?_, fun h => ?_⟩
  ·have hlt : k < l.length := by simpa using h
   clear h
   have hd := mldErr_drop (s := s) hlt
   obtain ⟨g, hg⟩ : ∃ g, g = l[k] := ⟨_, rfl⟩
   rw [← hg] at hd
   have fin : ∀ (e : Int) (σ : St), meldErr s g = e → True := fun _ _ _ => trivial
   have wk := vwrap_succ (show k < 9223372036854775807 by omega)
   (have fa := (And.intro hlt (Eq.symm hg)); (repeat first | refine zG ?_ | ((with_reducible refine AW_seq ?_); intro K hK) | ((repeat (fail_if_success (refine hK _ ?_)); clear hK K); refine hK _ ?_; clear hK K)); (try clear fa))
   (have fa := zT; refine zW (says_checkGroup s g) ?_; (try clear fa))
   (have fa := zT; (repeat first | refine zG ?_ | ((with_reducible refine AW_seq ?_); intro K hK) | ((repeat (fail_if_success (refine hK _ ?_)); clear hK K); refine hK _ ?_; clear hK K)); (try clear fa))
   refine AW_cond rfl ⟨fun h => ?_, fun h => ?_⟩
   ·have h3 : 3 < g.wh := by simpa using h
    have he : meldErr s g = 4 := by simp [meldErr, h3]
    (have fa := zT; (repeat first | refine zG ?_ | ((with_reducible refine AW_seq ?_); intro K hK) | ((repeat (fail_if_success (refine hK _ ?_)); clear hK K); refine hK _ ?_; clear hK K)); (try clear fa))
    refine AW_ret ?_; refine ⟨.inr rfl, ?_, [], 2, finOk_nil, ?_⟩ <;> (have fa := zT; first | exact zE0 | (refine zE ?_; try clear fa))
    rw [hm, hR, hd, he]; rfl
   ·have h3 : ¬ 3 < g.wh := by simpa using h
    clear h
    by_cases h0 : grpErr s g.wh g.kd = 0
    ·have e0 : (grpErr s g.wh g.kd == 0) = true := by simp [h0]
     by_cases h4 : g.wh = 3
     ·have e4 : (g.wh != 3) = false := by simp [h4]
      have he : meldErr s g = 0 := by unfold meldErr; rw [if_neg h3, if_neg (by omega), if_neg (by simp [h4])]
      have e5 : (grpErr s g.wh g.kd != 0) = false := by simp [h0]
      (have fa := (And.intro e0 (And.intro e4 (And.intro e5 wk))); (repeat first | refine zG ?_ | ((with_reducible refine AW_seq ?_); intro K hK) | ((repeat (fail_if_success (refine hK _ ?_)); clear hK K); refine hK _ ?_; clear hK K)); (try clear fa))
      refine hJ _ hlt ?_ (by (have fa := zT; exact zV))
      rw [hR, hd, he]; rfl
     ·have e4 : (g.wh != 3) = true := by simp [h4]
      by_cases ho : g.op = true
      ·have he : meldErr s g = 0 := by simp [meldErr, h0, h3, ho]
       have e5 : (grpErr s g.wh g.kd != 0) = false := by simp [h0]
       (have fa := (And.intro e0 (And.intro e4 (And.intro e5 (And.intro ho (And.intro Bool.not_true wk))))); (repeat first | refine zG ?_ | ((with_reducible refine AW_seq ?_); intro K hK) | ((repeat (fail_if_success (refine hK _ ?_)); clear hK K); refine hK _ ?_; clear hK K)); (try clear fa))
       refine hJ _ hlt ?_ (by (have fa := zT; exact zV))
       rw [hR, hd, he]; rfl
      ·have ho : g.op = false := by simpa using ho
       have he : meldErr s g = 3 := by simp [meldErr, h0, h3, h4, ho]
       (have fa := (And.intro e0 (And.intro e4 (And.intro ho Bool.not_false))); (repeat first | refine zG ?_ | ((with_reducible refine AW_seq ?_); intro K hK) | ((repeat (fail_if_success (refine hK _ ?_)); clear hK K); refine hK _ ?_; clear hK K)); (try clear fa))
       refine AW_ret ?_; refine ⟨.inr rfl, ?_, [], 2, finOk_nil, ?_⟩ <;> (have fa := zT; first | exact zE0 | (refine zE ?_; try clear fa))
       rw [hm, hR, hd, he]; rfl
    ·have e0 : (grpErr s g.wh g.kd == 0) = false := by simp [h0]
     have e5 : (grpErr s g.wh g.kd != 0) = true := by simp [h0]
     have he : meldErr s g = grpErr s g.wh g.kd := by simp [meldErr, h0, h3]
     (have fa := (And.intro e0 e5); (repeat first | refine zG ?_ | ((with_reducible refine AW_seq ?_); intro K hK) | ((repeat (fail_if_success (refine hK _ ?_)); clear hK K); refine hK _ ?_; clear hK K)); (try clear fa))
     refine AW_ret ?_; refine ⟨.inr rfl, ?_, [], 2, finOk_nil, ?_⟩ <;> (have fa := zT; first | exact zE0 | (refine zE ?_; try clear fa))
     rw [hm, hR, hd, he, if_pos h0]
  ·have hk' : k = l.length := by have : ¬ k < l.length := by simpa using h
                                 omega
   subst hk'
   clear h
   (have fa := zT; (repeat first | refine zG ?_ | ((with_reducible refine AW_seq ?_); intro K hK) | ((repeat (fail_if_success (refine hK _ ?_)); clear hK K); refine hK _ ?_; clear hK K)); (try clear fa))
   refine AW_ret ?_; refine ⟨.inr rfl, ?_, [], 2, finOk_nil, ?_⟩ <;> (have fa := zT; first | exact zE0 | (refine zE ?_; try clear fa))
   rw [hm, hR, List.drop_length]; rfl
end Go.Proofs.YthblfhgofopcaaaGreat

namespace Go.Proofs.YthblfhgofopcaaaGreat
open Go.RowKit
def farC (m z : Int) : Bool := decide (z < 0) || decide (m < z)
def cntErr (s : TSet) (bag : List Int) : Int := if (bag.length : Int) ≠ kindsI s then 3 else if bag.any (farC s.co) = true then 2 else 0
theorem rcounts_any (v u : Value) (s : TSet) (zs : List Int) (w : World) (h : IsSet w v s) (hu : IsInts w u zs) : Calls Tryz.prog 118 #[v, u] w (Gives w (.int .i64 (cntErr s zs))) := by
 have hfin : ∀ r wf, cntErr s zs = r → Grow w wf → Gives w (.int .i64 (cntErr s zs)) (.returned (.int .i64 r)) wf := fun r wf h hg => ⟨by rw [h], hg⟩
 have HF := hid hfin
 have KN := hid (fun W (hg : Grow w W) => rKinds_any v s W (h.grow hg))
 have HU := hid (fun W (hg : Grow w W) => hu.grow hg)
 clear hfin
 obtain ⟨U, uc, rfl, huc, hum, hur⟩ := hu
 unfold maxLen at hum
 have HI := hid h
 obtain ⟨A, c, B, d, rfl, h1, h2⟩ := h.open_
 obtain ⟨_, _, e1, c1, m1, r1⟩ := h1
 obtain ⟨_, _, e2, d1, m2, r2⟩ := h2
 injection e1 with e1 _ e1'
 injection e2 with e2 _ e2'
 subst e1 e1' e2 e2'
 unfold maxLen at m1 m2
 have HG0 := hid (show Grow w (w.alloc (.cells #[.int .i64 s.pl, .slice A s.su.length c, .int .i64 s.wi, .int .i64 s.dr, .int .i64 s.fl, .int .i64 s.co, .int .i64 s.me, .int .i64 s.de, .slice B s.re.length d] 24)) from (Grow.refl w).alloc _)
 have HB0 := hid (show Blk (w.alloc (.cells #[.int .i64 s.pl, .slice A s.su.length c, .int .i64 s.wi, .int .i64 s.dr, .int .i64 s.fl, .int .i64 s.co, .int .i64 s.me, .int .i64 s.de, .slice B s.re.length d] 24)) w.heap.size 24 (setVals s (.slice A s.su.length c) (.slice B s.re.length d)) from heap_alloc_new w _)
 clear h
 by_cases hl : (zs.length : Int) = kindsI s
 ·have hne : ((zs.length : Int) != kindsI s) = false := by simp [hl]
  have HE := hid (fun r (hr : (if zs.any (farC s.co) = true then (2 : Int) else 0) = r) => (show cntErr s zs = r by unfold cntErr; rw [if_neg (fun h => h hl)]; exact hr))
  clear hl
  generalize kindsI s = m at *
  go_enter Tryz.func118, Tryz.ntmps118
  go_wp2_with fail
  refine (KN.out _ HG0.out).mono ?_
  rintro e w1 ⟨rfl, g1⟩
  have HG1 := hid (HG0.out.trans g1)
  have HB1 := hid (HB0.out.grow g1)
  go_wp2
  go_loopw [5] (fun iv wr => ∃ k : Nat, k ≤ zs.length ∧ iv = .int .i64 (k : Int) ∧ (zs.take k).any (farC s.co) = false ∧ Grow w1 wr) (fun iv _ => zs.length - (intOf iv).toNat)
  case atStart => exact ⟨0, Nat.zero_le _, rfl, rfl, Grow.refl _⟩
  case round =>
   obtain ⟨k, hk, rfl, hno, hgr⟩ := hrel
   have HNO := hid hno
   have hg := HG1.out.trans hgr
   clear hno
   by_cases hlt : k < zs.length
   ·obtain ⟨A', c', e', h1', h2', h3'⟩ := HU.out _ hg
    injection e' with e1' _ e2'
    subst e1' e2'
    obtain ⟨ad, rfl, _, hx⟩ := h3'.int hlt
    have i0 : (0 : Int) ≤ (k : Int) := by omega
    have i1 : (k : Int) < (zs.length : Int) := by omega
    obtain ⟨c0, c1, c2, c3, c4, c5, c6, c7, c8⟩ := set_cells (HB1.out.grow hgr)
    have HT := hid (show (zs.take (k + 1)).any (farC s.co) = farC s.co zs[k] by
     rw [List.take_succ_eq_append_getElem hlt, List.any_append, HNO.out]; simp)
    have HM := hid (show farC s.co zs[k] = true → zs.any (farC s.co) = true from fun h => List.any_eq_true.2 ⟨_, List.getElem_mem hlt, h⟩)
    generalize zs[k] = z at *
    by_cases z0 : z < 0
    ·have HR := hid (HE.out 2 (by rw [HM.out (by unfold farC; rw [decide_eq_true z0]; rfl)]; rfl))
     go_wp2
     go_quiet (fail)
     go_wp2
     go_ret
     exact HF.out _ _ HR.out (hg.drewN _)
    ·have zd : decide (z < 0) = false := decide_eq_false z0
     by_cases z1 : s.co < z
     ·have HR := hid (HE.out 2 (by rw [HM.out (by unfold farC; rw [decide_eq_true z1, Bool.or_true])]; rfl))
      go_wp2
      go_quiet (fail)
      go_wp2
      go_ret
      exact HF.out _ _ HR.out (hg.drewN _)
     ·have HR := hid (show farC s.co z = false by unfold farC; rw [zd, decide_eq_false z1]; rfl)
      go_wp2
      go_quiet (fail)
      go_wp2
      exact ⟨⟨k + 1, by omega, by go_num, by rw [HT.out, HR.out], hgr.drewN _⟩, by simp only [intOf]; omega⟩
   ·have HR := hid (HE.out 0 (by have := HNO.out; rw [List.take_of_length_le (by omega)] at this; rw [this]; rfl))
    have hlt' : ¬ (k : Int) < (zs.length : Int) := by omega
    go_wp2
    go_ret
    exact HF.out _ _ HR.out hg
 ·have hne : ((zs.length : Int) != kindsI s) = true := by simp [hl]
  have HE := hid (show cntErr s zs = 3 by unfold cntErr; rw [if_pos hl])
  clear hl
  generalize kindsI s = m at *
  go_enter Tryz.func118, Tryz.ntmps118
  go_wp2_with fail
  refine (KN.out _ HG0.out).mono ?_
  rintro e w1 ⟨rfl, g1⟩
  go_wp2
  go_ret
  exact HF.out _ _ HE.out (HG0.out.trans g1)
end Go.Proofs.YthblfhgofopcaaaGreat
