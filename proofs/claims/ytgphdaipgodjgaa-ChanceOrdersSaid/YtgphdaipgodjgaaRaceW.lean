/-
  Races: what a race is in memory; walks of the small functions.
-/
import Derived.Test.YtgphdaipgodjgaaRace
import Derived.Test.YtgphdaipgodjgaaRefDr
import Derived.Test.YtgphdaipgodjgaaWParts
namespace Go.Proofs.Ytgphdaipgodjgaa
open Go.RowKit

theorem infoBool : (Try.prog.info? 4).map (fun i => (i.zero, i.size, i.bytes)) = some (some (.bool false), 1, 1) := by kernel_rfl
abbrev bools (bs : List Bool) : List Value := bs.map Value.bool
theorem Blk.cell_bool {w : World} {g : Nat} {e : TypeId} {bs : List Bool} (h : Blk w g e (bools bs)) {i : Nat} (hi : i < bs.length) : w.cell? ⟨g, i, none⟩ = some (.bool bs[i]) := by rw [h.cell]; simp [hi]
theorem Blk.set_bool {w : World} {g : Nat} {e : TypeId} {bs : List Bool} (h : Blk w g e (bools bs)) (i : Nat) (z : Bool) : Blk (w.setCell ⟨g, i, none⟩ (.bool z)) g e (bools (bs.set i z)) := by
  rw [bools, List.map_set]; exact h.set i _

/-- Lists of integers, one for each seat. -/
def IsRowsI (w : World) (v : Value) (ws : List (List Int)) : Prop := IsList IsInts w v ws
theorem IsRowsI.grow {w w' : World} {v : Value} {ws : List (List Int)} (h : IsRowsI w v ws) (g : Grow w w') : IsRowsI w' v ws := IsList.grow (R := IsInts) (fun _ _ _ _ h g => IsInts.grow h g) h g
theorem IsRowsI.open_ {w : World} {v : Value} {ws : List (List Int)} (h : IsRowsI w v ws) : ∃ A c, v = .slice A ws.length c ∧ ws.length ≤ c ∧ c ≤ maxLen := by
  obtain ⟨A, c, vs, rfl, h1, h2, _⟩ := h
  exact ⟨A, c, rfl, h1, h2⟩
theorem IsRowsI.at_ {w : World} {A : Option Addr} {m c : Nat} {ws : List (List Int)} (h : IsRowsI w (.slice A m c) ws) {k : Nat} (hk : k < ws.length) : ∃ ad B n d, A = some ad ∧ ad.block < w.heap.size ∧ w.cell? (ad.add k) = some (.slice B n d) ∧ IsInts w (.slice B n d) ws[k] ∧ n = ws[k].length := by
  obtain ⟨A', c', vs, e, h1, h2, h3, h4, h5⟩ := h
  injection e with e1 e2 e3
  subst e1
  obtain ⟨ad, hA, hb, hc⟩ := h4.val (show k < vs.length by omega)
  have hi := h5 k vs[k] ws[k] (List.getElem?_eq_getElem (by omega)) (List.getElem?_eq_getElem hk)
  obtain ⟨B, d, e, _⟩ := id hi
  rw [e] at hc hi
  exact ⟨ad, B, _, d, hA, hb, hc, hi, rfl⟩

/-- A race: what each seat wins, what none does, and all. -/
def IsRace (w : World) (v : Value) (n : Nat) (f : Nat → Int) (nn aa : Int) : Prop :=
  ∃ (A : Option Addr) (c : Nat) (vs : List Value) (v2 v3 : Value), v = .agg #[.slice A n c, v2, v3] ∧ n ≤ c ∧ c ≤ maxLen ∧ vs.length = n ∧ Rd w A vs ∧ Tag w 23 (.slice A n c) ∧ NatsAt w vs f ∧ IsNatF w v2 nn ∧ IsNatF w v3 aa
theorem IsRace.grow {w w' : World} {v : Value} {n : Nat} {f : Nat → Int} {nn aa : Int} (h : IsRace w v n f nn aa) (g : Grow w w') : IsRace w' v n f nn aa := by
  obtain ⟨A, c, vs, v2, v3, h1, h2, h3, h4, h5, h6, h7, h8, h9⟩ := h
  exact ⟨A, c, vs, v2, v3, h1, h2, h3, h4, h5.grow g, h6.grow g, h7.grow g, h8.grow g, h9.grow g⟩
theorem IsRace.nil {w : World} {f : Nat → Int} : IsRace w (.agg #[.slice none 0 0, .slice none 0 0, .slice none 0 0]) 0 f 0 0 :=
  ⟨none, 0, [], _, _, rfl, Nat.le_refl _, Nat.zero_le _, rfl, Rd.nil, Tag.nil, fun i v hv => by simp at hv, IsNatF.nil, IsNatF.nil⟩
/-- A race and an error. -/
def RaceRes (w : World) (n : Nat) (f : Nat → Int) (nn aa er : Int) (e : Ending) (w' : World) : Prop := ∃ v, e = .returned (.tuple #[v, .int .i64 er]) ∧ IsRace w' v n f nn aa ∧ Grow w w'
/-- What a race answers. -/
def RaceOf (w : World) (u : List Int) (ws : List (List Int)) (first draws : Int) (e : Ending) (w' : World) : Prop :=
  RaceRes w (if raceErr u ws first draws = 0 then ws.length else 0) (raceF u ws first draws) (if raceErr u ws first draws = 0 then raceN u ws draws else 0) (if raceErr u ws first draws = 0 then raceA u ws else 0) (raceErr u ws first draws) e w'

theorem Blk.rd {w : World} {g : Nat} {e : TypeId} {xs : List Value} (h : Blk w g e xs) : Rd w (some ⟨g, 0, none⟩) xs := fun i u hu =>
  ⟨_, rfl, h.lt, by rw [show (⟨g, 0, none⟩ : Addr).add i = ⟨g, i, none⟩ from by unfold Addr.add; split <;> simp_all]; rw [h.cell]; exact hu⟩
/-- The block of the result is stored. -/
theorem race_fin {w W : World} {GW n : Nat} {vs : List Value} {f : Nat → Int} {nn aa er : Int} {v2 v3 a b c : Value} (hn : n ≤ 100) (hW : Blk W GW 23 vs) (hl : vs.length = n) (hf : NatsAt W vs f) (h2 : IsNatF W v2 nn) (h3 : IsNatF W v3 aa) (hb : Blk W w.heap.size 60 [a, b, c]) (hg : Grow w W) :
    RaceRes w n f nn aa er (.returned (.tuple #[.agg #[.slice (some ⟨GW, 0, none⟩) n n, v2, v3], .int .i64 er])) (((W.setCell ⟨w.heap.size, 0, none⟩ (.slice (some ⟨GW, 0, none⟩) n n)).setCell ⟨w.heap.size, 1, none⟩ v2).setCell ⟨w.heap.size, 2, none⟩ v3) := by
  have bb : But w.heap.size W (((W.setCell ⟨w.heap.size, 0, none⟩ (.slice (some ⟨GW, 0, none⟩) n n)).setCell ⟨w.heap.size, 1, none⟩ v2).setCell ⟨w.heap.size, 2, none⟩ v3) := (((But.refl _ _).set 0 _).set 1 v2).set 2 v3
  have ht : Tag W 23 (.slice (some ⟨GW, 0, none⟩) n n) := hW.tag
  exact ⟨_, rfl, ⟨_, n, vs, _, _, rfl, Nat.le_refl _, by unfold maxLen; omega, hl, bb.rdG hb hW.rd ht (by decide), bb.tagG hb ht (by decide), fun i v hv => (hf i v hv).butG bb hb (by decide), h2.butG bb hb (by decide), h3.butG bb hb (by decide)⟩, ((hg.set (Nat.le_refl _) _).set (Nat.le_refl _) _).set (Nat.le_refl _) _⟩

/-- The block of a result of a race, in a world that has grown. -/
theorem race_block {w W : World} (h : Grow (w.alloc (.cells #[.slice none 0 0, .slice none 0 0, .slice none 0 0] 60)) W) :
    Blk W w.heap.size 60 [.slice none 0 0, .slice none 0 0, .slice none 0 0] := h.blk_some (heap_alloc_new w _)

theorem hasB_at {l : List Int} {k : Int} {j : Nat} (hj : j < l.length) (h : l[j] = k) : hasB l k = true := by
  unfold hasB
  exact decide_eq_true (by rw [← h]; exact List.getElem_mem hj)
theorem hasB_no {l : List Int} {k : Int} (h : ∀ j (hj : j < l.length), l[j] ≠ k) : hasB l k = false := by
  unfold hasB
  exact decide_eq_false fun hk => by
    obtain ⟨j, hj, e⟩ := List.getElem_of_mem hk
    exact h j hj e

def IdxRes (w : World) (b : Bool) (e : Ending) (w' : World) : Prop := ∃ n : Int, e = .returned (.int .i64 n) ∧ decide (0 ≤ n) = b ∧ w = w'
theorem ret_b {a b : Bool} (h : a = b) : Ending.returned (.bool a) = .returned (.bool b) := by rw [h]
theorem index_ints (v : Value) (l : List Int) (k : Int) (w : World) (h : IsInts w v l) : Calls Try.prog 99 #[v, .int .i64 k] w (IdxRes w (hasB l k)) := by
  obtain ⟨A, c, rfl, hc, hm, hr⟩ := h
  unfold maxLen at hm
  have hfin : ∀ n : Int, decide (0 ≤ n) = hasB l k → IdxRes w (hasB l k) (.returned (.int .i64 n)) w := fun n hn => ⟨n, rfl, hn, rfl⟩
  have HF := hid hfin
  clear hfin
  go_enter Try.func99, Try.ntmps99
  go_wp2
  go_loop [8] (fun i => ∃ j, j ≤ l.length ∧ i = .int .i64 j ∧ ∀ i, (h : i < l.length) → i < j → l[i] ≠ k) (fun i => l.length - (intOf i).toNat)
  case atStart => exact ⟨0, Nat.zero_le _, rfl, by simp⟩
  case round =>
    obtain ⟨j, hj, rfl, hz⟩ := hrel
    have HZ := hid hz
    clear hz
    by_cases hlt : j < l.length
    · obtain ⟨ad, rfl, hb, hx⟩ := hr.int hlt
      by_cases he : l[j] = k
      · have he' : (k == l[j]) = true := by simp [he]
        have HE := hid (hasB_at hlt he)
        clear he
        go_wp2
        go_ret
        exact HF.out _ (by rw [HE.out]; simp)
      · have he' : (k == l[j]) = false := by simp; exact fun e => he e.symm
        have HE := hid he
        clear he
        go_wp2
        refine ⟨⟨j + 1, by omega, by go_num, fun i hi hij => ?_⟩, by simp only [intOf]; omega⟩
        by_cases e : i = j
        · subst e; exact HE.out
        · exact HZ.out i hi (by omega)
    · have HE := hid (hasB_no fun j hj => HZ.out j hj (by omega))
      go_wp2
      go_ret
      exact HF.out _ (by rw [HE.out]; rfl)

theorem contains_ints (v : Value) (l : List Int) (k : Int) (w : World) (h : IsInts w v l) : Calls Try.prog 74 #[v, .int .i64 k] w (Same w (.bool (hasB l k))) := by
  have hi := index_ints v l k w h
  obtain ⟨A, c, rfl, _⟩ := h
  have HI := hid hi
  clear hi
  go_enter Try.func74, Try.ntmps74
  go_wp2_with fail
  refine HI.out.mono ?_
  rintro e w1 ⟨n, rfl, hn, rfl⟩
  have HN := hid hn
  clear hn
  go_wp2
  go_ret
  exact ⟨ret_b HN.out, rfl⟩

theorem has_any (v : Value) (l : List Int) (k : Int) (w : World) (h : IsInts w v l) : Calls Try.prog 100 #[v, .int .i64 k] w (Same w (.bool (hasB l k))) := by
  obtain ⟨A, c, rfl, hc, hm, hr⟩ := h
  unfold maxLen at hm
  have hfin : ∀ b : Bool, hasB l k = b → Same w (.bool (hasB l k)) (.returned (.bool b)) w := fun b hb => ⟨by rw [hb], rfl⟩
  have HF := hid hfin
  clear hfin
  go_enter Try.func100, Try.ntmps100
  go_wp2
  go_loop [5] (fun i => ∃ j, j ≤ l.length ∧ i = .int .i64 j ∧ ∀ i, (h : i < l.length) → i < j → l[i] ≠ k) (fun i => l.length - (intOf i).toNat)
  case atStart => exact ⟨0, Nat.zero_le _, rfl, by simp⟩
  case round =>
    obtain ⟨j, hj, rfl, hz⟩ := hrel
    have HZ := hid hz
    clear hz
    by_cases hlt : j < l.length
    · obtain ⟨ad, rfl, hb, hx⟩ := hr.int hlt
      by_cases he : l[j] = k
      · have he' : (l[j] == k) = true := by simp [he]
        have HE := hid (hasB_at hlt he)
        clear he
        go_wp2
        go_ret
        exact HF.out _ HE.out
      · have he' : (l[j] == k) = false := by simpa using he
        have HE := hid he
        clear he
        go_wp2
        refine ⟨⟨j + 1, by omega, by go_num, fun i hi hij => ?_⟩, by simp only [intOf]; omega⟩
        by_cases e : i = j
        · subst e; exact HE.out
        · exact HZ.out i hi (by omega)
    · have HE := hid (hasB_no fun j hj => HZ.out j hj (by omega))
      go_wp2
      go_ret
      exact HF.out _ HE.out

theorem inW_at {ws : List (List Int)} {s : Nat} (hs : s < ws.length) (k : Int) : inW ws s k = hasB ws[s] k := by
  unfold inW
  rw [List.getD_eq_getElem?_getD, List.getElem?_eq_getElem hs]; rfl
theorem winner_any (v : Value) (ws : List (List Int)) (seat : Nat) (k : Int) (w : World) (h : IsRowsI w v ws) (hn : ws.length ≤ 100) (hs : seat ≤ 1000) : Calls Try.prog 75 #[v, .int .i64 (seat : Int), .int .i64 k] w (Same w (.int .i64 (winI ws seat k))) := by
  obtain ⟨A, c, rfl, hc, hm⟩ := h.open_
  unfold maxLen at hm
  have hfin : ∀ n : Int, winI ws seat k = n → Same w (.int .i64 (winI ws seat k)) (.returned (.int .i64 n)) w := fun n hb => ⟨by rw [hb], rfl⟩
  have HF := hid hfin
  have HW := hid h
  clear hfin h
  go_enter Try.func75, Try.ntmps75
  go_wp2
  go_loop [7] (fun i => ∃ j : Nat, j ≤ ws.length ∧ i = .int .i64 (j : Int) ∧ ∀ i, i < j → inW ws ((seat + i) % ws.length) k = false) (fun i => ws.length - (intOf i).toNat)
  case atStart => exact ⟨0, Nat.zero_le _, rfl, by simp⟩
  case round =>
    obtain ⟨j, hj, rfl, hz⟩ := hrel
    have HZ := hid hz
    clear hz
    by_cases hlt : j < ws.length
    · obtain ⟨p, hp⟩ : ∃ p, p = (seat + j) % ws.length := ⟨_, rfl⟩
      have hl : p < ws.length := by rw [hp]; exact Nat.mod_lt _ (by omega)
      obtain ⟨ad, B, n, d, rfl, hb, hx, hi, rfl⟩ := HW.out.at_ hl
      have hh := has_any _ _ k w hi
      rw [← inW_at hl k] at hh
      have e1 : ((seat : Int) + (j : Int)) % (ws.length : Int) = (p : Int) := by rw [hp]; simp
      have HP := hid hp.symm
      have HFO := hid (fun h => winI_found (k := k) hlt h HZ.out)
      rw [← hp] at HFO
      clear hp
      have p1 : (p : Int) < (ws.length : Int) := by omega
      generalize hq : inW ws p k = q at *
      have HH := hid hh
      have HQ := hid hq
      clear hh hq
      go_wp2_with fail
      refine HH.out.mono ?_
      rintro e w1 ⟨rfl, rfl⟩
      cases q
      · go_wp2
        refine ⟨⟨j + 1, by omega, by go_num, fun i hij => ?_⟩, by simp only [intOf]; omega⟩
        by_cases e : i = j
        · subst e; rw [HP.out]; exact HQ.out
        · exact HZ.out i (by omega)
      · have HE := hid (HFO.out rfl)
        go_wp2
        go_ret
        exact HF.out _ HE.out
    · have HE := hid (winI_none fun j hj => HZ.out j (by omega))
      go_wp2
      go_ret
      exact HF.out _ HE.out
end Go.Proofs.Ytgphdaipgodjgaa
