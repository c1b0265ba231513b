/-
  Seats sorted by their points: slices.SortStableFunc of at most four seats at the closure of Ranks.
-/
import Derived.Test.YtomgilkchlediaaShelf
import Derived.Test.YtomgilkchlediaaRankB
import Derived.BigQuiet
import Derived.Deep.QuietTactic
namespace Go.Proofs.Ytomgilkchlediaa
open Go.RowKit Go.Sort Go.Shelf

theorem ins1 {α : Type} [Inhabited α] (lt : α → α → Bool) (d : Array α) : insertionSort lt d 0 1 = d := by
  unfold insertionSort; rw [insOuter, if_neg (by omega)]
theorem ins2 {α : Type} [Inhabited α] (lt : α → α → Bool) (d : Array α) : insertionSort lt d 0 2 = insInner lt 0 1 d := by
  unfold insertionSort; rw [insOuter, if_pos (by omega), insOuter, if_neg (by omega)]
theorem ins3 {α : Type} [Inhabited α] (lt : α → α → Bool) (d : Array α) : insertionSort lt d 0 3 = insInner lt 0 2 (insInner lt 0 1 d) := by
  unfold insertionSort; rw [insOuter, if_pos (by omega), insOuter, if_pos (by omega), insOuter, if_neg (by omega)]
theorem ins4 {α : Type} [Inhabited α] (lt : α → α → Bool) (d : Array α) : insertionSort lt d 0 4 = insInner lt 0 3 (insInner lt 0 2 (insInner lt 0 1 d)) := by
  unfold insertionSort; rw [insOuter, if_pos (by omega), insOuter, if_pos (by omega), insOuter, if_pos (by omega), insOuter, if_neg (by omega)]
/-- What comes first: the greater points. -/
def ltS (p : Nat → Int) (x y : Fin 4) : Bool := decide (p y.val < p x.val)
def ahdS (p : Nat → Int) (s k : Nat) : Bool := decide (p s < p k) || (decide (p k = p s) && decide (k < s))
def plcS (p : Nat → Int) (s : Nat) : Nat → Nat
  | 0 => 0
  | k + 1 => plcS p s k + if ahdS p s k then 1 else 0
theorem seats2 (p : Nat → Int) : ∃ a b : Fin 4, insertionSort (ltS p) #[0, 1] 0 2 = #[a, b] ∧ a.val < 2 ∧ b.val < 2 ∧ (∀ i < 2, i = a.val ∨ i = b.val) ∧ plcS p a.val 2 = 0 ∧ plcS p b.val 2 = 1 := by
  rw [ins2]
  by_cases h : p 0 < p 1
  · refine ⟨1, 0, ?_, by decide, by decide, by decide, ?_, ?_⟩
    · simp [insInner, ltS, swp, h]
    · simp [plcS, ahdS]; omega
    · simp [plcS, ahdS]; omega
  · refine ⟨0, 1, ?_, by decide, by decide, by decide, ?_, ?_⟩
    · simp [insInner, ltS, h]
    · simp [plcS, ahdS]; omega
    · simp [plcS, ahdS]; omega
theorem fv0 : ((0 : Fin 4) : Nat) = 0 := rfl
theorem fv1 : ((1 : Fin 4) : Nat) = 1 := rfl
theorem fv2 : ((2 : Fin 4) : Nat) = 2 := rfl
theorem fv3 : ((3 : Fin 4) : Nat) = 3 := rfl
set_option maxHeartbeats 4000000 in
theorem seats3 (p : Nat → Int) : ∃ a b c : Fin 4, insertionSort (ltS p) #[0, 1, 2] 0 3 = #[a, b, c] ∧ a.val < 3 ∧ b.val < 3 ∧ c.val < 3 ∧ (∀ i < 3, i = a.val ∨ i = b.val ∨ i = c.val) ∧ plcS p a.val 3 = 0 ∧ plcS p b.val 3 = 1 ∧ plcS p c.val 3 = 2 := by
  rw [ins3]
  by_cases h1 : p 0 < p 1 <;> by_cases h2 : p 0 < p 2 <;> by_cases h3 : p 1 < p 2 <;> first | (exfalso; omega) | (
    refine ⟨_, _, _, (by simp only [insInner, ltS, swp]; simp [h1, h2, h3]; first | exact ⟨rfl, rfl, rfl⟩ | rfl), by decide, by decide, by decide, by decide, ?_, ?_, ?_⟩ <;> (simp only [fv0, fv1, fv2, plcS, ahdS, Bool.or_eq_true, Bool.and_eq_true, decide_eq_true_eq]; (repeat (first | rw [if_pos (by omega)] | rw [if_neg (by omega)]))))
set_option maxHeartbeats 16000000 in
theorem seats4 (p : Nat → Int) : ∃ a b c d : Fin 4, insertionSort (ltS p) #[0, 1, 2, 3] 0 4 = #[a, b, c, d] ∧ a.val < 4 ∧ b.val < 4 ∧ c.val < 4 ∧ d.val < 4 ∧ (∀ i < 4, i = a.val ∨ i = b.val ∨ i = c.val ∨ i = d.val) ∧ plcS p a.val 4 = 0 ∧ plcS p b.val 4 = 1 ∧ plcS p c.val 4 = 2 ∧ plcS p d.val 4 = 3 := by
  rw [ins4]
  by_cases h1 : p 0 < p 1 <;> by_cases h2 : p 0 < p 2 <;> by_cases h3 : p 1 < p 2 <;> by_cases h4 : p 0 < p 3 <;> by_cases h5 : p 1 < p 3 <;> by_cases h6 : p 2 < p 3 <;> first | (exfalso; omega) | (
    refine ⟨_, _, _, _, (by simp only [insInner, ltS, swp]; simp [fv3, h1, h2, h3, h4, h5, h6]; first | exact ⟨rfl, rfl, rfl, rfl⟩ | rfl), by decide, by decide, by decide, by decide, by decide, ?_, ?_, ?_, ?_⟩ <;> (simp only [fv0, fv1, fv2, fv3, plcS, ahdS, Bool.or_eq_true, Bool.and_eq_true, decide_eq_true_eq]; (repeat (first | rw [if_pos (by omega)] | rw [if_neg (by omega)]))))
theorem plc_place (pts : List Int) (s : Nat) : ∀ k, plcS (dg pts) s k = placeTo pts s k
  | 0 => by simp [plcS, placeTo]
  | k + 1 => by rw [plcS, placeTo_succ, plc_place pts s k]; rfl
/-- The seats, ascending. -/
def seatArr (n : Nat) : Array (Fin 4) := ((List.range n).map (Fin.ofNat 4)).toArray
/-- Seats in the order of their points. -/
structure SeatsOk (sl : List (Fin 4)) (q : List Int) (n : Nat) : Prop where
  len : sl.length = n
  at_ : ∀ (k : Nat) (h : k < sl.length), sl[k].val < n ∧ placeN q sl[k].val = k
  all : ∀ i, i < n → ∃ (k : Nat) (h : k < sl.length), i = sl[k].val
theorem seats_sorted (q : List Int) (n : Nat) (hq : q.length = n) (h1 : 1 ≤ n) (h4 : n ≤ 4) : ∃ sl : List (Fin 4), insertionSort (ltS (dg q)) (seatArr n) 0 n = sl.toArray ∧ SeatsOk sl q n := by
  have hp : ∀ s, placeN q s = plcS (dg q) s n := fun s => by unfold placeN; rw [plc_place, hq]
  rcases (show n = 1 ∨ n = 2 ∨ n = 3 ∨ n = 4 by omega) with rfl | rfl | rfl | rfl
  · refine ⟨[0], ins1 _ _, rfl, fun k h => ?_, fun i hi => ⟨0, by decide, by show i = 0; omega⟩⟩
    obtain rfl : k = 0 := by simp at h; omega
    refine ⟨Nat.zero_lt_one, ?_⟩
    rw [hp]
    simp [plcS, ahdS]
  · obtain ⟨a, b, e, ha, hb, hall, pa, pb⟩ := seats2 (dg q)
    refine ⟨[a, b], e, rfl, fun k h => ?_, fun i hi => ?_⟩
    · rcases (show k = 0 ∨ k = 1 by simp at h; omega) with rfl | rfl
      · exact ⟨ha, (hp _).trans pa⟩
      · exact ⟨hb, (hp _).trans pb⟩
    · rcases hall i hi with h | h
      · exact ⟨0, by simp, h⟩
      · exact ⟨1, by simp, h⟩
  · obtain ⟨a, b, c, e, ha, hb, hc, hall, pa, pb, pc⟩ := seats3 (dg q)
    refine ⟨[a, b, c], e, rfl, fun k h => ?_, fun i hi => ?_⟩
    · rcases (show k = 0 ∨ k = 1 ∨ k = 2 by simp at h; omega) with rfl | rfl | rfl
      · exact ⟨ha, (hp _).trans pa⟩
      · exact ⟨hb, (hp _).trans pb⟩
      · exact ⟨hc, (hp _).trans pc⟩
    · rcases hall i hi with h | h | h
      · exact ⟨0, by simp, h⟩
      · exact ⟨1, by simp, h⟩
      · exact ⟨2, by simp, h⟩
  · obtain ⟨a, b, c, d, e, ha, hb, hc, hd, hall, pa, pb, pc, pd⟩ := seats4 (dg q)
    refine ⟨[a, b, c, d], e, rfl, fun k h => ?_, fun i hi => ?_⟩
    · rcases (show k = 0 ∨ k = 1 ∨ k = 2 ∨ k = 3 by simp at h; omega) with rfl | rfl | rfl | rfl
      · exact ⟨ha, (hp _).trans pa⟩
      · exact ⟨hb, (hp _).trans pb⟩
      · exact ⟨hc, (hp _).trans pc⟩
      · exact ⟨hd, (hp _).trans pd⟩
    · rcases hall i hi with h | h | h | h
      · exact ⟨0, by simp, h⟩
      · exact ⟨1, by simp, h⟩
      · exact ⟨2, by simp, h⟩
      · exact ⟨3, by simp, h⟩
set_option maxRecDepth 100000 in
set_option maxHeartbeats 2000000 in
/-- The closure: which of two seats has more points. -/
theorem ranks2_any (W : World) (PB : Nat) (q : List Int) (a b : Fin 4) (h : Blk W PB 61 (fourC (padP q))) :
    Calls Try.prog 26 #[.int .i64 a.val, .int .i64 b.val, .pointer (some ⟨PB, 0, none⟩)] W (Says W (.int .i64 (cmpI (dg q b.val) (dg q a.val)))) := by
  obtain ⟨a, ha⟩ := a
  obtain ⟨b, hb⟩ := b
  have cell : ∀ i, i < 4 → W.cell? ⟨PB, i, none⟩ = some (.int .i64 (dg q i)) := fun i hi => by
    rw [h.cell]
    rcases (show i = 0 ∨ i = 1 ∨ i = 2 ∨ i = 3 by omega) with rfl | rfl | rfl | rfl <;> rfl
  have ca := cell a ha
  have cb := cell b hb
  show Calls Try.prog 26 #[.int .i64 (a : Int), .int .i64 (b : Int), .pointer (some ⟨PB, 0, none⟩)] W (Says W (.int .i64 (cmpI (dg q b) (dg q a))))
  generalize dg q a = za at *
  generalize dg q b = zb at *
  have a0 : (0 : Int) ≤ (a : Int) := by omega
  have a4 : (a : Int) < 4 := by omega
  have b0 : (0 : Int) ≤ (b : Int) := by omega
  have b4 : (b : Int) < 4 := by omega
  clear cell h
  go_enter Try.func26, Try.ntmps26
  go_wp2
  go_quiet ((go_at_call 27; exact q_same (compare_any _ _ _)))
  go_wp2
  go_ret
  exact ⟨rfl, _, rfl⟩
/-- A seat's number. -/
def seatV (s : Fin 4) : Value := .int .i64 (s.val : Int)
theorem putRow_blk {α : Type} [Inhabited α] {w : World} {g : Nat} {e : TypeId} {xs : List Value} (enc : α → Value) (d : Array α) (h : Blk w g e xs) (hl : xs.length = d.size) : Blk (putRow enc w g 0 d) g e (d.toList.map enc) ∧ ∀ k, k ≠ g → (putRow enc w g 0 d).heap[k]? = w.heap[k]? := by
  constructor
  · unfold Blk at h ⊢
    unfold putRow mapBlock
    show (w.heap.modify g (onCells (putCells enc 0 d)))[g]? = _
    rw [Array.getElem?_modify, if_pos rfl, h]
    simp only [Option.map_some, onCells]
    congr 2
    apply Array.ext_getElem?
    intro k
    simp only [putCells, Array.getElem?_mapIdx, List.getElem?_toArray, List.getElem?_map, Array.getElem?_toList]
    by_cases hk : k < d.size
    · have hx : k < xs.length := by omega
      rw [List.getElem?_eq_getElem hx, Array.getElem?_eq_getElem hk]
      simp [hk]
    · rw [List.getElem?_eq_none (by omega), Array.getElem?_eq_none (by omega)]
      rfl
  · intro k hk
    show (w.heap.modify g (onCells (putCells enc 0 d)))[k]? = _
    rw [Array.getElem?_modify, if_neg (fun e => hk e.symm)]
/-- The seats lie sorted. -/
def SeatsSorted (W : World) (g : Nat) (q : List Int) (n : Nat) (e : Ending) (w' : World) : Prop :=
  e = .returned (.tuple #[]) ∧ ∃ sl : List (Fin 4), SeatsOk sl q n ∧ Blk w' g 3 (sl.map seatV) ∧ W.grownBy w' (some g)
theorem ltOf_seats (q : List Int) : ltOf (fun x y : Fin 4 => cmpI (dg q y.val) (dg q x.val)) = ltS (dg q) := by
  funext x y
  unfold ltOf ltS
  show decide (cmpI (dg q y.val) (dg q x.val) < 0) = decide (dg q y.val < dg q x.val)
  rcases Int.lt_trichotomy (dg q y.val) (dg q x.val) with h | h | h
  · rw [cmpI_lt h]; simp [h]
  · rw [h, cmpI_eq]; simp
  · rw [cmpI_gt h]
    have : ¬ dg q y.val < dg q x.val := by omega
    simp [this]
theorem seatArr_list {n : Nat} (h : n ≤ 4) : (seatArr n).toList.map seatV = (List.range n).map fun i : Nat => Value.int .i64 (i : Int) := by
  rcases (show n = 0 ∨ n = 1 ∨ n = 2 ∨ n = 3 ∨ n = 4 by omega) with rfl | rfl | rfl | rfl | rfl <;> rfl
theorem seatArr_size (n : Nat) : (seatArr n).size = n := by simp [seatArr]
set_option maxRecDepth 100000 in
set_option maxHeartbeats 2000000 in
theorem insSeats_any (W : World) (PB g : Nat) (q : List Int) (n : Nat) (hq : q.length = n) (h1 : 1 ≤ n) (h4 : n ≤ 4) (hP : Blk W PB 61 (fourC (padP q))) (hG : Blk W g 3 ((List.range n).map fun i : Nat => Value.int .i64 (i : Int))) :
    Calls Try.prog 57 #[.slice (some ⟨g, 0, none⟩) n n, .int .i64 0, .int .i64 n, .func (.func 26) #[] #[.pointer (some ⟨PB, 0, none⟩)]] W (SeatsSorted W g q n) := by
  have hne : PB ≠ g := fun e => by
    subst e
    have h2 := (show W.heap[PB]? = _ from hP).symm.trans hG
    injection h2 with h2
    injection h2 with _ h2
    exact absurd h2 (by decide)
  have hs := seatArr_size n
  have hl := seatArr_list h4
  have eg : ∀ args w, (callFunc 26 args).run Try.prog w = .ok (.enter 26 args) w := enters_of Try.func26 (by kernel_rfl) rfl
  have hH : Holds seatV W g 0 (seatArr n) := fun j hj => by
    rw [Nat.zero_add, hG.cell, ← hl]
    refine ⟨?_, hG.free j⟩
    rw [List.getElem?_map, Array.getElem?_toList, Array.getElem?_eq_getElem hj, getElem!_pos _ j hj]
    rfl
  have hcmp : CmpReads Try.prog 26 #[.pointer (some ⟨PB, 0, none⟩)] seatV (fun x y : Fin 4 => cmpI (dg q y.val) (dg q x.val)) g 0 (seatArr n).size W := fun m os dk hdk x y => by
    refine ranks2_any _ PB q x y ?_
    unfold Blk sortWorld Go.Sort.grow
    have h2 : (putRow seatV (Sort.ahead W m) g 0 dk).heap[PB]? = some (.cells (fourC (padP q)).toArray 61 (0, 0)) :=
      ((putRow_blk seatV dk (w := Sort.ahead W m) hG (by rw [hdk, hs]; simp)).2 PB hne).trans hP
    show ((putRow seatV (Sort.ahead W m) g 0 dk).heap ++ os)[PB]? = _
    rw [Array.getElem?_append_left (lt_of_block h2)]
    exact h2
  have hc := Try.insertionSortCmpFunc_one seatV (fun _ => rfl) (fun x y : Fin 4 => cmpI (dg q y.val) (dg q x.val)) 26 #[.pointer (some ⟨PB, 0, none⟩)] g 0 n 0 n (seatArr n) W eg hcmp hH (Nat.zero_le _) (by rw [hs]; exact Nat.le_refl _) (by rw [hs]; omega)
  rw [hs] at hc
  refine hc.mono ?_
  rintro e w' ⟨rfl, k, rfl⟩
  obtain ⟨sl, e1, e2⟩ := seats_sorted q n hq h1 h4
  rw [ltOf_seats, e1]
  have hb := putRow_blk seatV sl.toArray (w := W) hG (by simp [e2.len])
  refine ⟨rfl, sl, e2, hb.1, rfl, rfl, rfl, ?_, fun i hi hn => hb.2 i (fun e => hn (by rw [e]))⟩
  show W.heap.size ≤ (putRow seatV W g 0 sl.toArray).heap.size
  rw [size_putRow]
  exact Nat.le_refl _
set_option maxRecDepth 100000 in
set_option maxHeartbeats 2000000 in
theorem sortSeats_any (W : World) (PB g : Nat) (q : List Int) (n : Nat) (hq : q.length = n) (h1 : 1 ≤ n) (h4 : n ≤ 4) (hP : Blk W PB 61 (fourC (padP q))) (hG : Blk W g 3 ((List.range n).map fun i : Nat => Value.int .i64 (i : Int))) :
    Calls Try.prog 25 #[.slice (some ⟨g, 0, none⟩) n n, .func (.func 26) #[] #[.pointer (some ⟨PB, 0, none⟩)]] W (SeatsSorted W g q n) := by
  have hi := hid (insSeats_any W PB g q n hq h1 h4 hP hG)
  have b1 : (n : Int) < 20 := by omega
  have hs : Calls Try.prog 45 #[.slice (some ⟨g, 0, none⟩) n n, .int .i64 n, .func (.func 26) #[] #[.pointer (some ⟨PB, 0, none⟩)]] W (SeatsSorted W g q n) := by
    clear hP hG hq
    go_enter Try.func45, Try.ntmps45
    go_wp2
    refine wp_loop_rounds 1 ?_
    rw [rounds_succ]
    go_wp2_with (go_at_call 57; refine hi.out.mono ?_; rintro e w' ⟨rfl, hw⟩; have HW := hid hw; clear hw)
    refine wp_loop_rounds 1 ?_
    rw [rounds_succ]
    go_wp2
    go_end0
    exact ⟨rfl, HW.out⟩
  have HS := hid hs
  clear hs hP hG hi hq
  go_enter Try.func25, Try.ntmps25
  go_wp2_with (go_at_call 45; refine HS.out.mono ?_; rintro e w' ⟨rfl, hw⟩; have HW := hid hw; clear hw)
  go_end0
  exact ⟨rfl, HW.out⟩
end Go.Proofs.Ytomgilkchlediaa
