/-
  Parts of the proof: Adds, Is.
-/
import Derived.Test.YtjiahcfegfimmaaNotes25
import Derived.Test.YtjiahcfegfimmaaNotes42
import Derived.Test.YtjiahcfegfimmaaNotes33
import Derived.Test.YtjiahcfegfimmaaNotes11
/-
  Bags add up; all tiles once; how many are red. Plain laws.
-/
namespace Go.Proofs.Ytjiahcfegfimmaa

theorem dupE_zero {n : Int} {p l : List Int} (h : ∀ t ∈ l, 0 ≤ t ∧ t < n) (hd : l.Nodup) (hp : ∀ t ∈ l, t ∉ p) : dupE n p l = 0 := by
  induction l generalizing p with
  | nil => rfl
  | cons x l ih =>
    have hx := h x (List.mem_cons_self ..)
    rw [List.nodup_cons] at hd
    unfold dupE
    rw [if_neg (by omega), if_neg (hp x (List.mem_cons_self ..))]
    refine ih (fun t ht => h t (List.mem_cons_of_mem _ ht)) hd.2 fun t ht hm => ?_
    rcases List.mem_append.1 hm with hm | hm
    · exact hp t (List.mem_cons_of_mem _ ht) hm
    · rw [List.mem_singleton] at hm
      subst hm
      exact hd.1 ht
theorem upto_nodup (n : Nat) : (upto n).Nodup := by
  unfold upto List.Nodup
  rw [List.pairwise_map]
  exact List.nodup_range.imp (fun h => by omega)
theorem upto_mem {n : Nat} {t : Int} : t ∈ upto n ↔ 0 ≤ t ∧ t < n := by
  unfold upto
  simp only [List.mem_map, List.mem_range]
  constructor
  · rintro ⟨a, ha, rfl⟩; omega
  · intro h; exact ⟨t.toNat, by omega, by omega⟩
theorem wall_perm (s : TSet) (seed : Int) : (wallI s seed).Perm (upto (sizeI s).toNat) := by
  unfold wallI
  refine shuf_perm _ _ _ ?_
  rw [upto_length]
  omega
/-- What is a part of a wall. -/
def WallPart (s : TSet) (l : List Int) : Prop := (∀ t ∈ l, 0 ≤ t ∧ t < sizeI s) ∧ l.Nodup
theorem part_wall (s : TSet) (seed : Int) : WallPart s (wallI s seed) := by
  have h := wall_perm s seed
  refine ⟨fun t ht => ?_, h.nodup_iff.2 (upto_nodup _)⟩
  have := upto_mem.1 (h.mem_iff.1 ht)
  omega
theorem WallPart.sub {s : TSet} {l m : List Int} (h : WallPart s l) (hs : List.Sublist m l) : WallPart s m :=
  ⟨fun t ht => h.1 t (hs.subset ht), h.2.sublist hs⟩
theorem WallPart.once {s : TSet} {l : List Int} (h : WallPart s l) (e : chkErr s = 0) : onceErr s l = 0 := by
  unfold onceErr
  rw [if_neg (by omega)]
  exact dupE_zero h.1 h.2 (fun _ _ => List.not_mem_nil)
theorem cntI_append (s : TSet) (l m : List Int) (k : Int) : cntI s (l ++ m) k = cntI s l k + cntI s m k := by
  unfold cntI; rw [List.filter_append, List.length_append]; omega
theorem cntI_perm {s : TSet} {l m : List Int} (h : l.Perm m) (k : Int) : cntI s l k = cntI s m k := by
  unfold cntI; rw [(h.filter _).length_eq]
theorem count_between (n a b : Nat) (hab : a ≤ b) (hb : b ≤ n) : ((List.range n).filter fun i => decide (a ≤ i ∧ i < b)).length = b - a := by
  have h : ∀ m, ((List.range m).filter fun i => decide (a ≤ i ∧ i < b)).length = min m b - min m a := by
    intro m
    induction m with
    | zero => simp
    | succ m ih =>
      rw [List.range_succ, List.filter_append, List.length_append, ih]
      by_cases hc : a ≤ m ∧ m < b
      · simp [hc]; omega
      · simp [hc]; omega
  rw [h]; omega
theorem cnt_all {s : TSet} (e : chkErr s = 0) {k : Int} (h0 : 0 ≤ k) (h1 : k < plainI s) : cntI s (upto (sizeI s).toNat) k = s.co := by
  have V := valid_of e
  have hc := V.co
  have hf := V.fl
  have ht := V.tiles
  have hz := size_ok e
  obtain ⟨c, hcn⟩ := Int.eq_ofNat_of_zero_le (show 0 ≤ s.co by omega)
  obtain ⟨p, hpn⟩ := Int.eq_ofNat_of_zero_le (show 0 ≤ plainI s by omega)
  obtain ⟨q, rfl⟩ := Int.eq_ofNat_of_zero_le h0
  rw [hpn, hcn] at hz
  have hle : q * c + c ≤ p * c := by rw [← Nat.succ_mul]; exact Nat.mul_le_mul_right c (by omega)
  have hpc : ((p * c : Nat) : Int) ≤ sizeI s := by rw [hz, Int.natCast_mul]; omega
  unfold cntI upto
  rw [List.filter_map, List.length_map]
  rw [show ((List.range (sizeI s).toNat).filter ((fun t => decide (kindI s t = (q : Int))) ∘ fun (i : Nat) => (i : Int))) = (List.range (sizeI s).toNat).filter fun i => decide (q * c ≤ i ∧ i < q * c + c) from ?_]
  · rw [count_between _ _ _ (by omega) (by omega), hcn]; omega
  · refine List.filter_congr fun i hi => ?_
    rw [List.mem_range] at hi
    simp only [Function.comp]
    refine decide_eq_decide.2 ?_
    unfold kindI
    rw [if_neg (by omega), hpn, hcn]
    have hdm := Nat.div_add_mod i c
    have hml := Nat.mod_lt i (show 0 < c by omega)
    have hqe : ((i : Int) / (c : Int)) = ((i / c : Nat) : Int) := by simp
    have hmc : (p : Int) * (c : Int) = ((p * c : Nat) : Int) := by simp
    rw [hqe, hmc]
    by_cases hpi : p * c ≤ i
    · rw [if_pos (by omega)]
      constructor
      · intro h; omega
      · intro h; omega
    · rw [if_neg (by omega)]
      constructor
      · intro h
        have h' : i / c = q := by omega
        rw [h', Nat.mul_comm] at hdm
        omega
      · rintro ⟨g1, g2⟩
        have : i / c = q := by
          refine Nat.div_eq_of_lt_le ?_ ?_
          · exact g1
          · rw [Nat.succ_mul]; exact g2
        omega
/-- How many are red. -/
def redsN (fs : List (Int × Bool)) : Nat := (fs.filter (·.2)).length
theorem redsN_snoc (fs : List (Int × Bool)) (f : Int × Bool) : redsN (fs ++ [f]) = redsN fs + if f.2 = true then 1 else 0 := by
  unfold redsN
  rw [List.filter_append, List.length_append]
  cases h : f.2 <;> simp [h]
theorem redsN_le (fs : List (Int × Bool)) : redsN fs ≤ fs.length := List.length_filter_le _ _
theorem redsN_faces (s : TSet) (ts : List Int) : redsN (facesI s ts) = (ts.filter (redB s)).length := by
  unfold redsN facesI
  rw [List.filter_map, List.length_map]
  rfl
theorem asc_nodup {l : List Int} (h : AscZ l) : l.Nodup := by
  unfold List.Nodup
  rw [List.pairwise_iff_getElem]
  intro i j hi hj hij
  have := h i j hi hj hij
  omega
theorem reds_all {s : TSet} (e : chkErr s = 0) : ((upto (sizeI s).toNat).filter (redB s)).length = s.re.length := by
  have V := valid_of e
  have hc := V.co
  have hf := V.fl
  have ht := V.tiles
  have hz := size_ok e
  have hA := risErr_above V.re
  have hN := asc_nodup (risErr_asc V.re)
  have hM : (s.re.map (fun r => r * s.co)).Nodup := by
    unfold List.Nodup at hN ⊢
    rw [List.pairwise_map]
    refine hN.imp fun {a b} h hab => h ?_
    exact Int.eq_of_mul_eq_mul_right (show s.co ≠ 0 by omega) hab
  have hF : ((upto (sizeI s).toNat).filter (redB s)).Nodup := (upto_nodup _).sublist List.filter_sublist
  have hP := (List.perm_ext_iff_of_nodup hF hM).2 fun t => by
    rw [List.mem_filter, upto_mem, List.mem_map]
    constructor
    · rintro ⟨⟨t0, t1⟩, hr⟩
      unfold redB at hr
      rw [kinds_ok e] at hr
      simp only [Bool.and_eq_true, decide_eq_true_eq] at hr
      obtain ⟨⟨k0, k1⟩, hm, hin⟩ := hr
      have kq := (kind_quo e t0 (by omega)).2.2
      refine ⟨_, hin, ?_⟩
      have h3 : kindI s t = t / s.co := by
        by_cases hq : t / s.co < plainI s
        · exact kq.2.1 hq
        · have := kq.2.2.1 (by omega); omega
      rw [h3]
      have := Int.mul_ediv_add_emod t s.co
      rw [Int.mul_comm]; omega
    · rintro ⟨r, hr, rfl⟩
      have h1 := hA r hr
      have h2 : r * s.co + s.co ≤ plainI s * s.co := by
        have : (r + 1) * s.co ≤ plainI s * s.co := Int.mul_le_mul_of_nonneg_right (by omega) (by omega)
        rwa [Int.add_mul, Int.one_mul] at this
      have h0 : 0 ≤ r * s.co := Int.mul_nonneg (by omega) (by omega)
      have hk : kindI s (r * s.co) = r := by
        unfold kindI
        rw [if_neg (by omega), if_neg (by omega)]
        exact Int.mul_ediv_cancel r (by omega)
      refine ⟨by omega, ?_⟩
      unfold redB
      rw [hk, kinds_ok e]
      simp [h1, hr]
  rw [hP.length_eq, List.length_map]
theorem redsN_wall {s : TSet} (e : chkErr s = 0) (seed : Int) : redsN (facesI s (wallI s seed)) = s.re.length := by
  rw [redsN_faces, ((wall_perm s seed).filter _).length_eq, reds_all e]
/-- The bags of a wall and of its parts. -/
structure BagLaw (s : TSet) (w : List Int) (at_ : Nat) : Prop where
  e1 : onceErr s (w.take at_) = 0
  e2 : onceErr s (w.drop at_) = 0
  e3 : onceErr s w = 0
  l1 : (bagI s (w.take at_)).length = (plainI s).toNat
  l2 : (bagI s (w.drop at_)).length = (plainI s).toNat
  l3 : (bagI s w).length = (plainI s).toNat
  all : ∀ (k : Nat) (h : k < (bagI s w).length), (bagI s w)[k] = s.co
  add : ∀ (k : Nat) (h : k < (bagI s w).length) (h1 : k < (bagI s (w.take at_)).length) (h2 : k < (bagI s (w.drop at_)).length), (bagI s (w.take at_))[k] + (bagI s (w.drop at_))[k] = (bagI s w)[k]
  red : redsN (facesI s w) = s.re.length
theorem bag_law {s : TSet} (e : chkErr s = 0) (seed : Int) (at_ : Nat) : BagLaw s (wallI s seed) at_ := by
  have hp := part_wall s seed
  have hl : ∀ ts, (bagI s ts).length = (plainI s).toNat := fun ts => by rw [bagI_length, kinds_ok e]
  refine ⟨(hp.sub (List.take_sublist _ _)).once e, (hp.sub (List.drop_sublist _ _)).once e, hp.once e, hl _, hl _, hl _, fun k h => ?_, fun k h h1 h2 => ?_, redsN_wall e seed⟩
  · rw [hl] at h
    simp only [bagI, List.getElem_map, List.getElem_range]
    rw [cntI_perm (wall_perm s seed), cnt_all e (by omega) (by omega)]
  · simp only [bagI, List.getElem_map, List.getElem_range]
    rw [← cntI_append, List.take_append_drop]
end Go.Proofs.Ytjiahcfegfimmaa

/-
  Walls, bags and faces of a set that is valid: what is handed back, opened.
-/
namespace Go.Proofs.Ytjiahcfegfimmaa
open Go.RowKit

/-- What Bag hands back: no error, and this list. -/
def BagIs (w : World) (M : Nat) (l : List Int) (e : Ending) (w' : World) : Prop := ∃ A c, e = .returned (.tuple #[.slice A M c, .int .i64 0]) ∧ IsInts w' (.slice A M c) l ∧ Grow w w'
theorem bag_is (v v2 : Value) (s : TSet) (ts : List Int) (w : World) (M : Nat) (h : IsSet w v s) (h2 : IsInts w v2 ts) (hp : WallPart s ts) (e : chkErr s = 0) (hl : ts.length ≤ 1000000) (hM : (bagI s ts).length = M) : Calls Try.prog 62 #[v, v2] w (BagIs w M (bagI s ts)) := by
  have ho := hp.once e
  have hz := size_bound s
  refine (Bag_any v v2 s ts w h h2 (fun t ht => by have := hp.1 t ht; omega) hl).mono ?_
  rintro e w' ⟨v, rfl, hi, hg⟩
  unfold bagV at hi
  rw [if_pos ho] at hi
  obtain ⟨A, c, rfl, _⟩ := id hi
  exact ⟨A, c, by rw [ho, hM], by rw [← hM]; exact hi, hg⟩
def FcsIs (w : World) (M : Nat) (l : List (Int × Bool)) (e : Ending) (w' : World) : Prop := ∃ A c, e = .returned (.tuple #[.slice A M c, .int .i64 0]) ∧ M ≤ c ∧ c ≤ maxLen ∧ Rd w' A (faceCells l) ∧ Grow w w'
theorem fcs_is (v v2 : Value) (s : TSet) (ts : List Int) (w : World) (h : IsSet w v s) (h2 : IsInts w v2 ts) (hp : WallPart s ts) (e : chkErr s = 0) (hl : ts.length ≤ 1000000) : Calls Try.prog 64 #[v, v2] w (FcsIs w ts.length (facesI s ts)) := by
  have ho := hp.once e
  have hz := size_bound s
  refine (Faces_any v v2 s ts w h h2 (fun t ht => by have := hp.1 t ht; omega) hl).mono ?_
  rintro e w' ⟨v, rfl, hi, hg⟩
  unfold facesV at hi
  rw [if_pos ho] at hi
  obtain ⟨A, c, rfl, h1, h2, h3⟩ := hi
  have hM : (facesI s ts).length = ts.length := by simp [facesI]
  exact ⟨A, c, by rw [ho, hM], by rw [← hM]; exact h1, h2, h3, hg⟩
theorem size_pos {s : TSet} (V : Valid s) : 1 ≤ plainI s * s.co + s.fl := by
  have h1 := V.full
  have h2 := V.de
  have h3 : 0 ≤ s.pl * (3 * s.me + 1) := Int.mul_nonneg (by have := V.pl; omega) (by have := V.me; omega)
  omega

/-- What Wall hands back: so many tiles. -/
def WallIs (w : World) (n : Nat) (l : List Int) (e : Ending) (w' : World) : Prop := ∃ A c, e = .returned (.slice A n c) ∧ IsInts w' (.slice A n c) l ∧ Grow w w'
theorem wall_is (v : Value) (s : TSet) (seed : Int) (w : World) {n : Nat} (h : IsSet w v s) (hn : (wallI s seed).length = n) : Calls Try.prog 23 #[v, .int .u64 seed] w (WallIs w n (wallI s seed)) := by
  refine (Wall_any v s seed w h).mono ?_
  rintro e w' ⟨v, rfl, hi, hg⟩
  obtain ⟨A, c, rfl, _⟩ := id hi
  exact ⟨A, c, by rw [hn], by rw [← hn]; exact hi, hg⟩
end Go.Proofs.Ytjiahcfegfimmaa
