/-
  Plain laws of Ranks: deals one after the other; sums over the entries of a map.
-/
import Derived.Test.YtomgilkchlediaaMapE
namespace Go.Proofs.Ytomgilkchlediaa
open Go.RowKit

/-- One deal more: what it makes of a function of the points. -/
def dealT (l : List Sw) (f : List Int → Int) (p : List Int) : Int := sumI (l.map fun s => s.w * f (addP p s.p))
theorem sumI_mul (c : Int) (l : List Int) : sumI (l.map fun x => c * x) = c * sumI l := by
  induction l with
  | nil => simp [sumI]
  | cons x l ih => simp only [List.map_cons, sumI_cons, ih, Int.mul_add]
/-- The last deal may be counted first. -/
theorem wsum_last (l : List Sw) (f : List Int → Int) : ∀ (d : Nat) (p : List Int), wsum l f (d + 1) p = wsum l (dealT l f) d p
  | 0, p => rfl
  | d + 1, p => by
    rw [wsum, wsum]
    congr 1
    refine List.map_congr_left fun s _ => ?_
    rw [wsum_last l f d]
def padP (p : List Int) : P4 := (dg p 0, dg p 1, dg p 2, dg p 3)
def listP (n : Nat) (p : P4) : List Int := [p.1, p.2.1, p.2.2.1, p.2.2.2].take n
theorem list_pad {p : List Int} {n : Nat} (h : p.length = n) (hn : n ≤ 4) : listP n (padP p) = p := by
  subst h
  match p, hn with
  | [], _ => rfl
  | [_], _ => rfl
  | [_, _], _ => rfl
  | [_, _, _], _ => rfl
  | [_, _, _, _], _ => rfl
  | _ :: _ :: _ :: _ :: _ :: r, h => simp at h
/-- The sum over the entries that are no longer to come. -/
noncomputable def dsum (qs : List (P4 × Int)) (left : Lit → Bool) (f : P4 → Int) : Int := sumI (qs.map fun x => if left (key4 x.1) then 0 else x.2 * f x.1)
theorem dsum_start {qs : List (P4 × Int)} {left : Lit → Bool} (h : ∀ x ∈ qs, left (key4 x.1) = true) (f : P4 → Int) : dsum qs left f = 0 := by
  unfold dsum
  induction qs with
  | nil => rfl
  | cons y qs ih =>
    simp only [List.map_cons, sumI_cons]
    rw [if_pos (h y (List.mem_cons_self ..)), ih fun x hx => h x (List.mem_cons_of_mem _ hx)]
    rfl
theorem dsum_end {qs : List (P4 × Int)} {left : Lit → Bool} (h : ∀ kl, left kl = false) (f : P4 → Int) : dsum qs left f = msum qs f := by
  unfold dsum msum
  congr 1
  refine List.map_congr_left fun x _ => ?_
  rw [h]
  rfl
theorem dsum_step {qs : List (P4 × Int)} (ho : Once qs) (hf : ∀ x ∈ qs, Fit4 x.1) {left left' : Lit → Bool} {x0 : P4 × Int} (hx : x0 ∈ qs) (h0 : left (key4 x0.1) = true) (h1 : left' (key4 x0.1) = false)
    (h2 : ∀ x ∈ qs, x.1 ≠ x0.1 → left' (key4 x.1) = left (key4 x.1)) (f : P4 → Int) : dsum qs left' f = dsum qs left f + x0.2 * f x0.1 := by
  unfold dsum
  induction qs with
  | nil => simp at hx
  | cons y qs ih =>
    obtain ⟨o1, o2⟩ := List.pairwise_cons.1 ho
    simp only [List.map_cons, sumI_cons]
    rcases List.mem_cons.1 hx with rfl | hx
    · rw [h0, h1]
      have : (qs.map fun x => if left' (key4 x.1) then (0 : Int) else x.2 * f x.1) = qs.map fun x => if left (key4 x.1) then 0 else x.2 * f x.1 :=
        List.map_congr_left fun x hx => by rw [h2 x (List.mem_cons_of_mem _ hx) (fun e => o1 x hx e.symm)]
      rw [this]
      simp
      omega
    · rw [h2 y (List.mem_cons_self ..) (o1 x0 hx), ih o2 (fun x hx => hf x (List.mem_cons_of_mem _ hx)) hx (fun x hx => h2 x (List.mem_cons_of_mem _ hx))]
      omega
/-- The four cells. -/
abbrev fourC (p : P4) : List Value := [.int .i64 p.1, .int .i64 p.2.1, .int .i64 p.2.2.1, .int .i64 p.2.2.2]
theorem pad_row {pts : List Int} (h : pts.length ≤ 4) : ints pts ++ ([.int .i64 0, .int .i64 0, .int .i64 0, .int .i64 0] : List Value).drop pts.length = fourC (padP pts) := by
  match pts, h with
  | [], _ => rfl
  | [_], _ => rfl
  | [_, _], _ => rfl
  | [_, _, _], _ => rfl
  | [_, _, _, _], _ => rfl
  | _ :: _ :: _ :: _ :: _ :: r, h => simp at h
/-- 'copy(begin[:], points)'. -/
theorem copy_four {w : World} {ad : Addr} {c : Nat} {pts : List Int} (t1 t2 ty : TypeId) (ht : Try.prog.underlying t1 = some (.slice 3)) (h : Rd w (some ad) (ints pts)) (h4 : pts.length ≤ 4) :
    ∃ w', (Builtin.copy_ #[t1, t2] ty #[.slice (some ⟨w.heap.size, 0, none⟩) 4 4, .slice (some ad) pts.length c]).run Try.prog (w.alloc (.cells #[.int .i64 0, .int .i64 0, .int .i64 0, .int .i64 0] 61)) = .ok (.int .i64 (pts.length : Int)) w' ∧ Blk w' w.heap.size 61 (fourC (padP pts)) ∧ Grow w w' ∧ w'.heap.size = w.heap.size + 1 := by
  have hg : Grow w (w.alloc (.cells #[.int .i64 0, .int .i64 0, .int .i64 0, .int .i64 0] 61)) := (Grow.refl _).alloc _
  have hb := heap_alloc_new w (.cells #[.int .i64 0, .int .i64 0, .int .i64 0, .int .i64 0] 61)
  have hr := run_copy_row (P := Try.prog) (w.alloc (.cells #[.int .i64 0, .int .i64 0, .int .i64 0, .int .i64 0] 61)) t1 t2 ty 3 w.heap.size 0 4 4 ad pts.length c _ 61 (ints pts) ht (by kernel_rfl) hb (by simp [Nat.min_eq_left h4])
    (fun j u hu => by
      obtain ⟨ad', e, _, hx⟩ := (h.grow hg) j u hu
      obtain rfl := Option.some.inj e
      exact hx) (by simp; omega) (fun u hu => by obtain ⟨z, _, rfl⟩ := List.mem_map.1 hu; rfl)
  rw [show (ints pts).length = pts.length from by simp] at hr
  have hrow := pad_row h4
  have e : ((#[.int .i64 0, .int .i64 0, .int .i64 0, .int .i64 0] : Array Value).toList.take 0 ++ ints pts ++ (#[.int .i64 0, .int .i64 0, .int .i64 0, .int .i64 0] : Array Value).toList.drop (0 + pts.length)).toArray = (fourC (padP pts)).toArray := by rw [← hrow]; simp
  rw [e] at hr
  refine ⟨_, hr, setRow_heap _ _ _ _ _ _ hb, ?_, by simp⟩
  have hs : ∀ i, i ≠ w.heap.size → ((w.alloc (.cells #[.int .i64 0, .int .i64 0, .int .i64 0, .int .i64 0] 61)).setRow w.heap.size (fourC (padP pts)).toArray).heap[i]? = (w.alloc (.cells #[.int .i64 0, .int .i64 0, .int .i64 0, .int .i64 0] 61)).heap[i]? := fun i hi => setRow_other _ _ _ _ hi
  exact ⟨hg.os, hg.tape, hg.output, by simp, fun i hi => (hs i (by omega)).trans (hg.block i hi)⟩
theorem pad_fit {pts : List Int} (h : pts.any (farB 1099511627776) = false) : Fit4 (padP pts) := by
  have key : ∀ i, (Lit.int .i64 (dg pts i)).wf = true := fun i => by
    unfold dg
    by_cases hi : i < pts.length
    · rw [dif_pos hi]
      have := far_false h _ (List.getElem_mem hi)
      exact WalkArith.wf_i64 (by omega)
    · rw [dif_neg hi]
      decide
  exact ⟨key 0, key 1, key 2, key 3⟩
theorem fourC_set {zs : List Int} {j : Nat} (h : zs.length ≤ 4) (hj : j < zs.length) (z : Int) : (fourC (padP zs)).set j (.int .i64 z) = fourC (padP (zs.set j z)) := by
  match zs, j, h, hj with
  | [_], 0, _, _ => rfl
  | [_, _], 0, _, _ => rfl
  | [_, _], 1, _, _ => rfl
  | [_, _, _], 0, _, _ => rfl
  | [_, _, _], 1, _, _ => rfl
  | [_, _, _], 2, _, _ => rfl
  | [_, _, _, _], 0, _, _ => rfl
  | [_, _, _, _], 1, _, _ => rfl
  | [_, _, _, _], 2, _, _ => rfl
  | [_, _, _, _], 3, _, _ => rfl
  | [], _, _, h => simp at h
  | [_], _ + 1, _, h => simp at h
  | [_, _], m + 2, _, h => exact absurd h (by simp only [List.length_cons, List.length_nil]; omega)
  | [_, _, _], m + 3, _, h => exact absurd h (by simp only [List.length_cons, List.length_nil]; omega)
  | [_, _, _, _], m + 4, _, h => exact absurd h (by simp only [List.length_cons, List.length_nil]; omega)
  | _ :: _ :: _ :: _ :: _ :: r, _, h, _ => simp at h
theorem fourC_at {zs : List Int} {j : Nat} (h : zs.length ≤ 4) (hj : j < zs.length) : (fourC (padP zs))[j]? = some (.int .i64 zs[j]) := by
  match zs, j, h, hj with
  | [_], 0, _, _ => rfl
  | [_, _], 0, _, _ => rfl
  | [_, _], 1, _, _ => rfl
  | [_, _, _], 0, _, _ => rfl
  | [_, _, _], 1, _, _ => rfl
  | [_, _, _], 2, _, _ => rfl
  | [_, _, _, _], 0, _, _ => rfl
  | [_, _, _, _], 1, _, _ => rfl
  | [_, _, _, _], 2, _, _ => rfl
  | [_, _, _, _], 3, _, _ => rfl
  | [], _, _, h => simp at h
  | [_], _ + 1, _, h => simp at h
  | [_, _], m + 2, _, h => exact absurd h (by simp only [List.length_cons, List.length_nil]; omega)
  | [_, _, _], m + 3, _, h => exact absurd h (by simp only [List.length_cons, List.length_nil]; omega)
  | [_, _, _, _], m + 4, _, h => exact absurd h (by simp only [List.length_cons, List.length_nil]; omega)
  | _ :: _ :: _ :: _ :: _ :: r, _, h, _ => simp at h
/-- What the entries are like after k deals. -/
structure EntOk (n k : Nat) (l : List Sw) (pts : List Int) (qs : List (P4 × Int)) : Prop where
  once : Once qs
  pos : ∀ x ∈ qs, 1 ≤ x.2
  at_ : ∀ x ∈ qs, ∃ q : List Int, q.length = n ∧ x.1 = padP q ∧ ∀ z ∈ q, -1099511627776 - 1000000 * (k : Int) ≤ z ∧ z ≤ 1099511627776 + 1000000 * (k : Int)
  sum : ∀ f : List Int → Int, msum qs (fun p => f (listP n p)) = wsum l f k pts
theorem EntOk.start {n : Nat} {l : List Sw} {pts : List Int} (hl : pts.length = n) (h4 : n ≤ 4) (h : pts.any (farB 1099511627776) = false) : EntOk n 0 l pts [(padP pts, 1)] :=
  ⟨List.pairwise_singleton .., fun x hx => by rw [List.mem_singleton] at hx; subst hx; exact Int.le_refl 1, fun x hx => by
    rw [List.mem_singleton] at hx
    subst hx
    exact ⟨pts, hl, rfl, fun z hz => by have := far_false h z hz; omega⟩, fun f => by
    unfold msum
    simp [sumI, wsum, list_pad hl h4]⟩
theorem msum_le {qs : List (P4 × Int)} (h : ∀ x ∈ qs, 1 ≤ x.2) : (qs.length : Int) ≤ msum qs (fun _ => 1) ∧ ∀ x ∈ qs, x.2 ≤ msum qs (fun _ => 1) := by
  induction qs with
  | nil => simp [msum, sumI]
  | cons y qs ih =>
    obtain ⟨i1, i2⟩ := ih fun x hx => h x (List.mem_cons_of_mem _ hx)
    have hy := h y (List.mem_cons_self ..)
    have e : msum (y :: qs) (fun _ => 1) = y.2 + msum qs (fun _ => 1) := by unfold msum; simp [sumI]
    rw [e]
    refine ⟨by simp only [List.length_cons]; omega, fun x hx => ?_⟩
    rcases List.mem_cons.1 hx with rfl | hx
    · omega
    · have := i2 x hx; omega
/-- What all entries are like, whatever their sum. -/
structure PartOk (n k : Nat) (qs : List (P4 × Int)) : Prop where
  once : Once qs
  pos : ∀ x ∈ qs, 1 ≤ x.2
  at_ : ∀ x ∈ qs, ∃ q : List Int, q.length = n ∧ x.1 = padP q ∧ ∀ z ∈ q, -1099511627776 - 1000000 * (k : Int) ≤ z ∧ z ≤ 1099511627776 + 1000000 * (k : Int)
theorem EntOk.part {n k : Nat} {l : List Sw} {pts : List Int} {qs : List (P4 × Int)} (h : EntOk n k l pts qs) : PartOk n k qs := ⟨h.once, h.pos, h.at_⟩
theorem PartOk.nil {n k : Nat} : PartOk n k [] := ⟨List.Pairwise.nil, by simp, by simp⟩
theorem fit_pad {k : Nat} (hk : k ≤ 10) {q : List Int} (h : ∀ z ∈ q, -1099511627776 - 1000000 * (k : Int) ≤ z ∧ z ≤ 1099511627776 + 1000000 * (k : Int)) : Fit4 (padP q) := by
  have key : ∀ i, (Lit.int .i64 (dg q i)).wf = true := fun i => by
    unfold dg
    by_cases hi : i < q.length
    · rw [dif_pos hi]
      have := h _ (List.getElem_mem hi)
      exact WalkArith.wf_i64 (by omega)
    · rw [dif_neg hi]
      decide
  exact ⟨key 0, key 1, key 2, key 3⟩
theorem PartOk.fit {n k : Nat} {qs : List (P4 × Int)} (h : PartOk n k qs) (hk : k ≤ 10) : ∀ x ∈ qs, Fit4 x.1 := fun x hx => by
  obtain ⟨q, _, e, hb⟩ := h.at_ x hx
  rw [e]
  exact fit_pad hk hb
theorem dsum_struck {n k : Nat} {qs : List (P4 × Int)} (hp : PartOk n k qs) (hk : k ≤ 10) {X : P4 × Int} (hX : X ∈ qs) {left : Lit → Bool} (hl : left (key4 X.1) = true) (F : P4 → Int) : dsum qs (fun z => left z && !z.sameKey (key4 X.1)) F = dsum qs left F + X.2 * F X.1 := by
  have hf := hp.fit hk
  refine dsum_step hp.once hf hX hl ?_ (fun x hx hne => ?_) F
  · simp only [hl, WideAt.sameKey_self (four_law.key (key4_is (hf X hX)))]
    rfl
  · have : (key4 x.1).sameKey (key4 X.1) = false := Maps.sameKey_ne (fun e => hne (key4_inj (hf x hx) (hf X hX) e))
    simp only [this]
    simp
theorem atE_nonneg {qs : List (P4 × Int)} (ho : Once qs) (h : ∀ x ∈ qs, 1 ≤ x.2) (p : P4) : 0 ≤ atE qs p := by
  by_cases he : ∃ x ∈ qs, x.1 = p
  · obtain ⟨x, hx, rfl⟩ := he
    rw [atE_in ho hx]
    have := h x hx
    omega
  · rw [atE_out he]
    decide
theorem PartOk.add {n k : Nat} {qs : List (P4 × Int)} (h : PartOk n k qs) {p : List Int} (hp : p.length = n) (hb : ∀ z ∈ p, -1099511627776 - 1000000 * (k : Int) ≤ z ∧ z ≤ 1099511627776 + 1000000 * (k : Int)) {c : Int} (hc : 1 ≤ c) : PartOk n k (addE qs (padP p) c) := by
  refine ⟨once_add h.once _ _, fun x hx => ?_, fun x hx => ?_⟩
  · rcases (addE_mem h.once).1 hx with ⟨hx, _⟩ | rfl
    · exact h.pos x hx
    · have := atE_nonneg h.once h.pos (padP p)
      show 1 ≤ atE qs (padP p) + c
      omega
  · rcases (addE_mem h.once).1 hx with ⟨hx, _⟩ | rfl
    · exact h.at_ x hx
    · exact ⟨p, hp, rfl, hb⟩
theorem sum_add {n k : Nat} {qs : List (P4 × Int)} (h : PartOk n k qs) {p : List Int} (hp : p.length = n) (h4 : n ≤ 4) (c : Int) (f : List Int → Int) : msum (addE qs (padP p) c) (fun x => f (listP n x)) = msum qs (fun x => f (listP n x)) + c * f p := by
  rw [msum_add h.once, list_pad hp h4]
theorem addP_bound {n k : Nat} {a b : List Int} (ha : a.length = n) (hb : b.length = n) (h1 : ∀ z ∈ a, -1099511627776 - 1000000 * (k : Int) ≤ z ∧ z ≤ 1099511627776 + 1000000 * (k : Int)) (h2 : ∀ z ∈ b, -1000000 ≤ z ∧ z ≤ 1000000) : ∀ z ∈ addP a b, -1099511627776 - 1000000 * ((k + 1 : Nat) : Int) ≤ z ∧ z ≤ 1099511627776 + 1000000 * ((k + 1 : Nat) : Int) := fun z hz => by
  obtain ⟨q, hq, rfl⟩ := List.getElem_of_mem hz
  have hq2 := hq
  rw [addP_len ha hb] at hq2
  have q1 : q < a.length := by omega
  have q2 : q < b.length := by omega
  rw [addP_at hq q1 q2]
  have := h1 _ (List.getElem_mem q1)
  have := h2 _ (List.getElem_mem q2)
  omega
theorem dsum_le {qs : List (P4 × Int)} (h : ∀ x ∈ qs, 1 ≤ x.2) {f : P4 → Int} (hf : ∀ p, 0 ≤ f p) (left : Lit → Bool) : dsum qs left f ≤ msum qs f := by
  unfold dsum msum
  induction qs with
  | nil => simp
  | cons y qs ih =>
    have hy := h y (List.mem_cons_self ..)
    have i1 := ih fun x hx => h x (List.mem_cons_of_mem _ hx)
    have hm : 0 ≤ y.2 * f y.1 := Int.mul_nonneg (by omega) (hf _)
    simp only [List.map_cons, sumI_cons]
    split <;> omega
end Go.Proofs.Ytomgilkchlediaa
