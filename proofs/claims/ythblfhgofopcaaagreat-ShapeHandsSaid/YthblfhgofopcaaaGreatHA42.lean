/-
  Parts of the proof: Awk, Lw, Into.
-/
import Derived.Test.YthblfhgofopcaaaGreatHA17
import Derived.Test.YthblfhgofopcaaaGreatHA36
import Derived.Test.YthblfhgofopcaaaGreatHA37
import Derived.Test.YthblfhgofopcaaaGreatHA41
set_option linter.all false
namespace Go.Proofs.YthblfhgofopcaaaGreat
open Go.RowKit
set_option maxRecDepth 100000
set_option maxHeartbeats 2000000
theorem says_jmelds (s : TSet) (f : Fm) (h : Hd) (hv : chkErr s = 0) (hb : Sb h.bag) (hn : (h.bag.length : Int) = kindsI s) (hs : h.bag.sum ≤ 14) : ASays Tryz.prog 133 [eJob s f h] (eLL false (splR (runsB s) 20 h.bag)) := by
 have CS := says_splits s hv h.bag hb hn hs
 refine acall_ofW (nx := 0) (ne := 0) tysGood (DD_ok tysGood mixed _) Tryz.func133 (by rfl) (by rfl) (by simp [Tryz.ntmps133]) (fun p hp => by cases hp) ?_; rw [Tryz.ntmps133]; let tb := ord_133; let lv := live_133
 (have fa := @eJob.eq_1; (repeat' first | refine zS (CS) ?_ | refine zQ ?_ | (refine zN ?_; intro K hC hK) | ((repeat clear hJo hJU hJC Jo JU JC); (repeat (fail_if_success (refine hK _ ?_)); clear hK hC K); refine hK _ ?_; clear hK hC K) | (refine zC ?_ ?_ <;> intro hb) | (refine zK ?_; intro Jo JU JC hJo hJU hJC)) <;> (try clear fa))
 refine AW_ret ?_; refine zU ?_; refine ⟨_, .rfl', .inr rfl, ?_, [], 2, finOk_nil, ?_⟩ <;> (have fa := zT; first | exact zE0 | (refine zE ?_; try clear fa))
 all_goals rfl
def mldA (s : TSet) (h : Hd) (f : Fm) : List (List Gp) := if (h.me.length : Int) ≤ mostI s f then splR (runsB s) 20 h.bag else []
theorem says_apart1 (s : TSet) (h : Hd) (f : Fm) (hw : f.wh = 1) (hh : handErr s h = 0) : ASays Tryz.prog 88 [eSet s, eFm false f, eHd false h] (eLL false (mldA s h f)) := by
 have ho := hand_ok hh
 have V := valid_of ho.va
 have hme := V.me
 have hco := V.co
 have hhi := ho.hi
 have hmm := ho.mm
 obtain ⟨b1, b2, b3⟩ := cnt_sb ho.va ho.cn
 refine says_apart s f h _ (by omega) hme (by omega) fun _ => ?_
 have : jobF f.wh = 133 := by rw [hw]; rfl
 rw [this]
 exact says_jmelds s f h ho.va b1 b2 (by omega)
def mls : List Fm := [⟨1, [], false⟩]
theorem says_Wins1 (s : TSet) (h : Hd) (hs : s.su.length ≤ 1000000) (h1 : h.me.length ≤ 1000000) (h2 : h.bag.length ≤ 1000000) : ASays Tryz.prog 33 [eSet s, eFms false mls, eHd false h] (B (winsM s h (mldA s h) mls)) :=
 says_Wins s h (mldA s h) mls (by simp [mls]) (by simp [mls]) hs h1 h2 fun hf _ f hfm => says_apart1 s h f (by simp [mls] at hfm; subst hfm; rfl) (by unfold fairB at hf; simp at hf; exact hf.2)
theorem says_Waits1 (s : TSet) (h : Hd) (hs : s.su.length ≤ 1000000) (h1 : h.me.length ≤ 1000000) (h2 : h.bag.length ≤ 1000000) : ASays Tryz.prog 36 [eSet s, eFms false mls, eHd false h] (eInts true (waitsM s h mls fun k => winsM s ⟨inc1 h.bag k, h.me⟩ (mldA s ⟨inc1 h.bag k, h.me⟩) mls)) :=
 says_Waits s h mls _ (by simp [mls]) (by simp [mls]) hs h1 h2 fun _ k _ => says_Wins1 s ⟨inc1 h.bag k, h.me⟩ hs h1 (by dsimp only; rw [inc1_len]; exact h2)
end Go.Proofs.YthblfhgofopcaaaGreat

namespace Go.Proofs.YthblfhgofopcaaaGreat
open Go.RowKit
set_option maxRecDepth 100000
set_option maxHeartbeats 2000000
theorem says_kEqual (a b : List Int) (ha : a.length ≤ 1000000) : ASays Tryz.prog 35 [eInts false a, eInts false b] (B (decide (a = b))) := by
 by_cases hl : a.length = b.length
 ·refine acall_ofW (nx := 0) (ne := 0) tysGood (DD_ok tysGood mixed _) Tryz.func35 (by rfl) (by rfl) (by simp [Tryz.ntmps35]) (fun p hp => by cases hp) ?_; rw [Tryz.ntmps35]; let tb := ord_35; let lv := live_35
  (have fa := zT; (repeat' first | refine zQ ?_ | (refine zN ?_; intro K hC hK) | ((repeat clear hJo hJU hJC Jo JU JC); (repeat (fail_if_success (refine hK _ ?_)); clear hK hC K); refine hK _ ?_; clear hK hC K) | (refine zC ?_ ?_ <;> intro hb) | (refine zK ?_; intro Jo JU JC hJo hJU hJC)) <;> (try clear fa))
  refine AW_forC a.length (fun k σ => (∀ i, (h1 : i < a.length) → (h2 : i < b.length) → i < k → a[i] = b[i]) ∧ σ = ⟨900, [(0, eInts false a), (1, eInts false b), (5, I k)], []⟩) [] [] 0 [0, 1, 5] 900 (finOk0 (by decide) (by decide)) (finOk0 (by decide) (by decide)) ⟨fun i _ _ h => absurd h (Nat.not_lt_zero i), by (have fa := zT; exact zV)⟩ ?_
  rintro k σ' hk ⟨hR, rfl⟩ J hcJ hJ
  by_cases hlt : k < a.length
  ·have hlt' : k < b.length := by omega
   by_cases he : a[k] = b[k]
   ·(have fa := (And.intro he @bne_self_eq_false.{0}); (repeat' first | refine zQ ?_ | (refine zN ?_; intro K hC hK) | ((repeat clear hJo hJU hJC Jo JU JC); (repeat (fail_if_success (refine hK _ ?_)); clear hK hC K); refine hK _ ?_; clear hK hC K) | (refine zC ?_ ?_ <;> intro hb) | (refine zK ?_; intro Jo JU JC hJo hJU hJC)) <;> (try clear fa))
    refine hJ _ hlt ⟨fun i h1 h2 h3 => ?_, by (have fa := zT; exact zV)⟩
    by_cases hi : i = k
    ·subst hi; exact he
    ·exact hR i h1 h2 (by omega)
   ·have hne : ¬ a = b := fun e => he (by simp [e])
    (have fa := zT; (repeat' first | refine zQ ?_ | (refine zN ?_; intro K hC hK) | ((repeat clear hJo hJU hJC Jo JU JC); (repeat (fail_if_success (refine hK _ ?_)); clear hK hC K); refine hK _ ?_; clear hK hC K) | (refine zC ?_ ?_ <;> intro hb) | (refine zK ?_; intro Jo JU JC hJo hJU hJC)) <;> (try clear fa))
    refine AW_ret ?_; refine zU ?_; refine ⟨_, .rfl', .inr rfl, ?_, [], 2, finOk_nil, ?_⟩ <;> (have fa := zT; first | exact zE0 | (refine zE ?_; try clear fa))
    rw [decide_eq_false hne]
  ·obtain rfl : k = a.length := by omega
   have he : a = b := eq_of_get hl fun i h1 h2 => hR i h1 h2 h1
   (have fa := zT; (repeat' first | refine zQ ?_ | (refine zN ?_; intro K hC hK) | ((repeat clear hJo hJU hJC Jo JU JC); (repeat (fail_if_success (refine hK _ ?_)); clear hK hC K); refine hK _ ?_; clear hK hC K) | (refine zC ?_ ?_ <;> intro hb) | (refine zK ?_; intro Jo JU JC hJo hJU hJC)) <;> (try clear fa))
   refine AW_ret ?_; refine zU ?_; refine ⟨_, .rfl', .inr rfl, ?_, [], 2, finOk_nil, ?_⟩ <;> (have fa := zT; first | exact zE0 | (refine zE ?_; try clear fa))
   rw [decide_eq_true he]
 ·have he : ¬ a = b := fun e => hl (by rw [e])
  rw [decide_eq_false he]
  refine acall_ofW (nx := 0) (ne := 0) tysGood (DD_ok tysGood mixed _) Tryz.func35 (by rfl) (by rfl) (by simp [Tryz.ntmps35]) (fun p hp => by cases hp) ?_; rw [Tryz.ntmps35]; let tb := ord_35; let lv := live_35
  (have fa := zT; (repeat' first | refine zQ ?_ | (refine zN ?_; intro K hC hK) | ((repeat clear hJo hJU hJC Jo JU JC); (repeat (fail_if_success (refine hK _ ?_)); clear hK hC K); refine hK _ ?_; clear hK hC K) | (refine zC ?_ ?_ <;> intro hb) | (refine zK ?_; intro Jo JU JC hJo hJU hJC)) <;> (try clear fa))
  refine AW_ret ?_; refine zU ?_; refine ⟨_, .rfl', .inr rfl, ?_, [], 2, finOk_nil, ?_⟩ <;> (have fa := zT; first | exact zE0 | (refine zE ?_; try clear fa))
theorem says_melds0 : ASays Tryz.prog 47 [] (eFms true mls) := by
 refine asays_le ?_
 refine acall_ofW (nx := 0) (ne := 0) tysGood (DD_ok tysGood mixed _) Tryz.func47 (by rfl) (by rfl) (by simp [Tryz.ntmps47]) (fun p hp => by cases hp) ?_; rw [Tryz.ntmps47]; let tb := ord_47; let lv := live_47
 (have fa := zT; (repeat' first | refine zQ ?_ | (refine zN ?_; intro K hC hK) | ((repeat clear hJo hJU hJC Jo JU JC); (repeat (fail_if_success (refine hK _ ?_)); clear hK hC K); refine hK _ ?_; clear hK hC K) | (refine zC ?_ ?_ <;> intro hb) | (refine zK ?_; intro Jo JU JC hJo hJU hJC)) <;> (try clear fa))
 refine AW_ret ?_; refine zU ?_; refine ⟨_, .rfl', .inr rfl, ?_, [], 2, finOk_nil, ?_⟩ <;> (have fa := zT; first | exact zE0 | (refine zE ?_; try clear fa))
 refine LeV.slc rfl fun i e e' h h' => ?_
 cases i with
 | zero =>
  simp [mls] at h h'
  subst h h'
  exact .cons .rfl' (.cons (LeV.nil _ _) (.cons .rfl' .nil))
 | succ i => simp at h
theorem says_small0 (a b c d : Int) : ASays Tryz.prog 68 [I a, I b, I c, I d, nilA] (eHd true ⟨[a, b, c, d], []⟩) := by
 refine asays_le ?_
 refine acall_ofW (nx := 0) (ne := 0) tysGood (DD_ok tysGood mixed _) Tryz.func68 (by rfl) (by rfl) (by simp [Tryz.ntmps68]) (fun p hp => by cases hp) ?_; rw [Tryz.ntmps68]; let tb := ord_68; let lv := live_68
 (have fa := zT; (repeat' first | refine zQ ?_ | (refine zN ?_; intro K hC hK) | ((repeat clear hJo hJU hJC Jo JU JC); (repeat (fail_if_success (refine hK _ ?_)); clear hK hC K); refine hK _ ?_; clear hK hC K) | (refine zC ?_ ?_ <;> intro hb) | (refine zK ?_; intro Jo JU JC hJo hJU hJC)) <;> (try clear fa))
 refine AW_ret ?_; refine zU ?_; refine ⟨_, .rfl', .inr rfl, ?_, [], 2, finOk_nil, ?_⟩ <;> (have fa := zT; first | exact zE0 | (refine zE ?_; try clear fa))
 exact LeV.agg (.cons .rfl' (.cons (LeV.nil _ _) .nil))
instance rgDec : DecidableEq Rg := fun a b => if h : a.fm = b.fm ∧ a.gs = b.gs ∧ a.at_ = b.at_ then isTrue (by cases a; cases b; simp_all) else isFalse (by rintro rfl; simp at h)
theorem read_tiny : readM tinyT ⟨[1, 1, 3, 0], []⟩ (mldA tinyT ⟨[1, 1, 3, 0], []⟩) mls 2 = [⟨0, [gp 1 0, gp 4 2], 0⟩, ⟨0, [gp 1 0, gp 4 2], 1⟩] := by decide +kernel
theorem wait_tiny : waitsM tinyT ⟨[1, 1, 1, 1], []⟩ mls (fun k => winsM tinyT ⟨inc1 [1, 1, 1, 1] k, []⟩ (mldA tinyT ⟨inc1 [1, 1, 1, 1] k, []⟩) mls) = [3] := by decide +kernel
theorem aok_tiny : AOk tinyT (mldA tinyT ⟨[1, 1, 3, 0], []⟩ ⟨1, [], false⟩) := by
 have e : mldA tinyT ⟨[1, 1, 3, 0], []⟩ ⟨1, [], false⟩ = [[gp 1 0, gp 4 2]] := by decide +kernel
 rw [e]
 refine ⟨by simp, fun x hx => ?_⟩
 simp at hx; subst hx
 refine ⟨by simp, by simp, fun g hg => ?_⟩
 simp at hg
 rcases hg with rfl | rfl <;> decide +kernel
theorem hand_tiny : handErr tinyT ⟨[1, 1, 3, 0], []⟩ = 0 := by decide +kernel
theorem says_R0 : ASays Tryz.prog 28 [eSet tinyT, eFms false mls, eHd false ⟨[1, 1, 3, 0], []⟩, I 2] (eRgs false [⟨0, [gp 1 0, gp 4 2], 0⟩, ⟨0, [gp 1 0, gp 4 2], 1⟩]) := by
 have := says_Readings tinyT ⟨[1, 1, 3, 0], []⟩ (mldA tinyT ⟨[1, 1, 3, 0], []⟩) mls 2 (by simp [mls]) (by simp [mls]) (by decide) (by simp) (by simp) fun _ _ f hf => by
  simp [mls] at hf; subst hf
  exact ⟨aok_tiny, says_apart1 _ _ _ rfl hand_tiny⟩
 rw [read_tiny] at this
 exact this
theorem says_W0 : ASays Tryz.prog 36 [eSet tinyT, eFms false mls, eHd false ⟨[1, 1, 1, 1], []⟩] (eInts true [3]) := by
 have := says_Waits1 tinyT ⟨[1, 1, 1, 1], []⟩ (by decide) (by simp) (by simp)
 rw [wait_tiny] at this
 exact this
theorem says_F0 : ASays Tryz.prog 20 [eSet tinyT, .agg [I 2, nilA, B false]] (I 3) := by
 have := says_CheckForm tinyT ⟨2, [], false⟩ (by simp) (by decide)
 rw [show formErr tinyT ⟨2, [], false⟩ = 3 by decide +kernel] at this
 exact asays_arg (.cons .rfl' (.cons (LeV.agg (.cons .rfl' (.cons (LeV.nil false 1) (.cons .rfl' .nil)))) .nil)) this
set_option maxHeartbeats 4000000 in
theorem says_awake : ASays Tryz.prog 18 [] (B true) := by
 have CE : ASays Tryz.prog 35 [eInts false [3], .sl false 1 [I 3]] (B true) := says_kEqual [3] [3] (by simp)
 have CS1 : ASays Tryz.prog 68 [I 1, I 1, I 3, I 0, nilA] (eHd true ⟨[1, 1, 3, 0], []⟩) := says_small0 1 1 3 0
 have CS2 : ASays Tryz.prog 68 [I 1, I 1, I 1, I 1, nilA] (eHd true ⟨[1, 1, 1, 1], []⟩) := says_small0 1 1 1 1
 refine acall_ofW (nx := 0) (ne := 0) tysGood (DD_ok tysGood mixed _) Tryz.func18 (by rfl) (by rfl) (by simp [Tryz.ntmps18]) (fun p hp => by cases hp) ?_; rw [Tryz.ntmps18]; let tb := ord_18; let lv := live_18
 (have fa := zT; (repeat' first | refine zS (says_Tiny) ?_ | refine zS (says_melds0) ?_ | refine zS (CS1) ?_ | refine zS (CS2) ?_ | refine zS (says_R0) ?_ | refine zS (says_W0) ?_ | refine zS (says_F0) ?_ | refine zS (CE) ?_ | refine zQ ?_ | (refine zN ?_; intro K hC hK) | ((repeat clear hJo hJU hJC Jo JU JC); (repeat (fail_if_success (refine hK _ ?_)); clear hK hC K); refine hK _ ?_; clear hK hC K) | (refine zC ?_ ?_ <;> intro hb) | (refine zK ?_; intro Jo JU JC hJo hJU hJC)) <;> (try clear fa))
 refine AW_ret ?_; refine zU ?_; refine ⟨_, .rfl', .inr rfl, ?_, [], 2, finOk_nil, ?_⟩ <;> (have fa := zT; first | exact zE0 | (refine zE ?_; try clear fa))
def bigB (s : TSet) (l : List Fm) (h : Hd) : Bool := decide (20 < s.su.length) || decide (60 < s.re.length) || decide (12 < l.length) || decide (60 < h.bag.length) || decide (10 < h.me.length) || l.any fun f => decide (60 < f.ks.length)
set_option maxHeartbeats 4000000 in
theorem says_big (s : TSet) (l : List Fm) (h : Hd) : ASays Tryz.prog 17 [eSet s, eFms false l, eHd false h] (B (bigB s l h)) := by
 obtain ⟨bag, me⟩ := h
 by_cases c : 20 < s.su.length ∨ 60 < s.re.length ∨ 12 < l.length ∨ 60 < bag.length ∨ 10 < me.length
 ·have hU : bigB s l ⟨bag, me⟩ = true := by
   unfold bigB
   rcases c with c | c | c | c | c <;> simp [c]
  rw [hU]
  refine acall_ofW (nx := 0) (ne := 0) tysGood (DD_ok tysGood mixed _) Tryz.func17 (by rfl) (by rfl) (by simp [Tryz.ntmps17]) (fun p hp => by cases hp) ?_; rw [Tryz.ntmps17]; let tb := ord_17; let lv := live_17
  (have fa := zT; (repeat' first | refine zQ ?_ | (refine zN ?_; intro K hC hK) | ((repeat clear hJo hJU hJC Jo JU JC); (repeat (fail_if_success (refine hK _ ?_)); clear hK hC K); refine hK _ ?_; clear hK hC K) | (refine zC ?_ ?_ <;> intro hb) | (refine zK ?_; intro Jo JU JC hJo hJU hJC)) <;> (try clear fa))
  all_goals first
   | (exfalso; omega)
   | (refine AW_ret ?_; refine zU ?_; refine ⟨_, .rfl', .inr rfl, ?_, [], 2, finOk_nil, ?_⟩ <;> (have fa := zT; first | exact zE0 | (refine zE ?_; try clear fa)); done)
   | trace_state
 ·have hU : bigB s l ⟨bag, me⟩ = l.any fun f => decide (60 < f.ks.length) := by
   unfold bigB
   have c1 : ¬ 20 < s.su.length := by omega
   have c2 : ¬ 60 < s.re.length := by omega
   have c3 : ¬ 12 < l.length := by omega
   have c4 : ¬ 60 < bag.length := by omega
   have c5 : ¬ 10 < me.length := by omega
   simp [c1, c2, c3, c4, c5]
  refine acall_ofW (nx := 0) (ne := 0) tysGood (DD_ok tysGood mixed _) Tryz.func17 (by rfl) (by rfl) (by simp [Tryz.ntmps17]) (fun p hp => by cases hp) ?_; rw [Tryz.ntmps17]; let tb := ord_17; let lv := live_17
  (have fa := zT; (repeat' first | refine zQ ?_ | (refine zN ?_; intro K hC hK) | ((repeat clear hJo hJU hJC Jo JU JC); (repeat (fail_if_success (refine hK _ ?_)); clear hK hC K); refine hK _ ?_; clear hK hC K) | (refine zC ?_ ?_ <;> intro hb) | (refine zK ?_; intro Jo JU JC hJo hJU hJC)) <;> (try clear fa))
  refine AW_forC l.length (fun k σ => (∀ i, (hi : i < l.length) → i < k → ¬ 60 < l[i].ks.length) ∧ σ = ⟨900, [(1, eFms false l), (7, I k)], []⟩) [] [] 0 [1, 7] 900 (finOk0 (by decide) (by decide)) (finOk0 (by decide) (by decide)) ⟨fun i _ h => absurd h (Nat.not_lt_zero i), by (have fa := zT; exact zV)⟩ ?_
  rintro k σ' hk ⟨hR, rfl⟩ J hcJ hJ
  by_cases hlt : k < l.length
  ·obtain ⟨f, hfk⟩ : ∃ f, l[k] = f := ⟨_, rfl⟩
   by_cases hb : 60 < f.ks.length
   ·(have fa := hfk; (repeat' first | refine zQ ?_ | (refine zN ?_; intro K hC hK) | ((repeat clear hJo hJU hJC Jo JU JC); (repeat (fail_if_success (refine hK _ ?_)); clear hK hC K); refine hK _ ?_; clear hK hC K) | (refine zC ?_ ?_ <;> intro hb) | (refine zK ?_; intro Jo JU JC hJo hJU hJC)) <;> (try clear fa))
    refine AW_ret ?_; refine zU ?_; refine ⟨_, .rfl', .inr rfl, ?_, [], 2, finOk_nil, ?_⟩ <;> (have fa := zT; first | exact zE0 | (refine zE ?_; try clear fa))
    rw [hU, show (l.any fun f => decide (60 < f.ks.length)) = true from List.any_eq_true.2 ⟨f, by rw [← hfk]; exact List.getElem_mem hlt, by simpa using hb⟩]
   ·(have fa := hfk; (repeat' first | refine zQ ?_ | (refine zN ?_; intro K hC hK) | ((repeat clear hJo hJU hJC Jo JU JC); (repeat (fail_if_success (refine hK _ ?_)); clear hK hC K); refine hK _ ?_; clear hK hC K) | (refine zC ?_ ?_ <;> intro hb) | (refine zK ?_; intro Jo JU JC hJo hJU hJC)) <;> (try clear fa))
    refine hJ _ hlt ⟨fun i hi h2 => ?_, by (have fa := zT; exact zV)⟩
    by_cases e : i = k
    ·subst e; rw [hfk]; exact hb
    ·exact hR i hi (by omega)
  ·(have fa := zT; (repeat' first | refine zQ ?_ | (refine zN ?_; intro K hC hK) | ((repeat clear hJo hJU hJC Jo JU JC); (repeat (fail_if_success (refine hK _ ?_)); clear hK hC K); refine hK _ ?_; clear hK hC K) | (refine zC ?_ ?_ <;> intro hb) | (refine zK ?_; intro Jo JU JC hJo hJU hJC)) <;> (try clear fa))
   refine AW_ret ?_; refine zU ?_; refine ⟨_, .rfl', .inr rfl, ?_, [], 2, finOk_nil, ?_⟩ <;> (have fa := zT; first | exact zE0 | (refine zE ?_; try clear fa))
   rw [hU, show (l.any fun f => decide (60 < f.ks.length)) = false from List.any_eq_false.2 fun f hf => by
    obtain ⟨i, hi, rfl⟩ := List.mem_iff_getElem.1 hf
    simpa using hR i hi (by omega)]
end Go.Proofs.YthblfhgofopcaaaGreat

namespace Go.Proofs.YthblfhgofopcaaaGreat
open Go.RowKit
set_option maxRecDepth 100000
set_option maxHeartbeats 2000000
theorem says_Into (n m : Int) (h0 : 0 < m) (h1 : m ≤ 1000000000) : ASays Tryz.prog 26 [I n, I m] (I (n % m)) := by
 have hm := Int.emod_nonneg n (show m ≠ 0 by omega)
 have hl := Int.emod_lt_of_pos n h0
 have ht : n.tmod m = n % m ∨ (n.tmod m < 0 ∧ n.tmod m + m = n % m) := by
  rw [Int.tmod_eq_emod]
  split
  ·left; omega
  ·right
   have : (m.natAbs : Int) = m := by omega
   rw [this]; omega
 obtain ⟨z, hz⟩ : ∃ z, n.tmod m = z := ⟨_, rfl⟩
 obtain ⟨y, hy⟩ : ∃ y, n % m = y := ⟨_, rfl⟩
 rw [hz, hy] at ht
 rw [hy] at hm hl ⊢
 have hne : ¬ m = 0 := by omega
 refine acall_ofW (nx := 0) (ne := 0) tysGood (DD_ok tysGood mixed _) Tryz.func26 (by rfl) (by rfl) (by simp [Tryz.ntmps26]) (fun p hp => by cases hp) ?_; rw [Tryz.ntmps26]; let tb := ord_26; let lv := live_26
 (have fa := hz; (repeat' first | refine zQ ?_ | (refine zN ?_; intro K hC hK) | ((repeat clear hJo hJU hJC Jo JU JC); (repeat (fail_if_success (refine hK _ ?_)); clear hK hC K); refine hK _ ?_; clear hK hC K) | (refine zC ?_ ?_ <;> intro hb) | (refine zK ?_; intro Jo JU JC hJo hJU hJC)) <;> (try clear fa))
 ·obtain rfl : y = z + m := by omega
  refine AW_ret ?_; refine zU ?_; refine ⟨_, .rfl', .inr rfl, ?_, [], 2, finOk_nil, ?_⟩ <;> (have fa := zT; first | exact zE0 | (refine zE ?_; try clear fa))
 ·obtain rfl : y = z := by omega
  refine AW_ret ?_; refine zU ?_; refine ⟨_, .rfl', .inr rfl, ?_, [], 2, finOk_nil, ?_⟩ <;> (have fa := zT; first | exact zE0 | (refine zE ?_; try clear fa))
end Go.Proofs.YthblfhgofopcaaaGreat
