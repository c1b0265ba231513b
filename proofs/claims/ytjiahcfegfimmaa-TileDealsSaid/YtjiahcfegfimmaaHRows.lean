/-
  Lists of lists: whether they are equal; what a deal of a whole wall hands back; two appends to an empty literal.
-/
import Derived.Test.YtjiahcfegfimmaaIs
import Derived.Test.YtjiahcfegfimmaaDeal
import Derived.Test.YtjiahcfegfimmaaRotS
import Derived.Test.YtjiahcfegfimmaaAwakeT
import Derived.Test.YtjiahcfegfimmaaApp
import Derived.BigQuiet
namespace Go.Proofs.Ytjiahcfegfimmaa
open Go.RowKit

def IsRows (w : World) (v : Value) (hs : List (List Int)) : Prop := IsList IsInts w v hs
theorem IsRows.grow {w w' : World} {v : Value} {hs : List (List Int)} (h : IsRows w v hs) (g : Grow w w') : IsRows w' v hs := IsList.grow (R := IsInts) (fun _ _ _ _ h g => IsInts.grow h g) h g
theorem IsRows.nil {w : World} : IsRows w (.slice none 0 0) [] := ⟨none, 0, [], rfl, Nat.le_refl _, Nat.zero_le _, rfl, Rd.nil, fun i u x h => by simp at h⟩
theorem Blk.rows {w : World} {G P : Nat} {vs : List Value} {hs : List (List Int)} (h : Blk w G 22 vs) (hl : vs.length = hs.length) (hP : hs.length = P) (hm : P ≤ 1000000) (hr : ∀ (i : Nat) (v : Value) (l : List Int), vs[i]? = some v → hs[i]? = some l → IsInts w v l) : IsRows w (.slice (some ⟨G, 0, none⟩) P P) hs := by
  subst hP
  refine ⟨_, _, vs, rfl, Nat.le_refl _, by unfold maxLen; omega, hl, fun i u hu => ⟨_, rfl, h.lt, ?_⟩, hr⟩
  rw [show (⟨G, 0, none⟩ : Addr).add i = ⟨G, i, none⟩ from by unfold Addr.add; split <;> simp_all, h.cell]
  exact hu
/-- One list of them. -/
theorem IsRows.row {w : World} {A : Option Addr} {n c : Nat} {hs : List (List Int)} (h : IsRows w (.slice A n c) hs) {k : Nat} (hk : k < hs.length) : ∃ ad u, A = some ad ∧ w.cell? (ad.add k) = some u ∧ IsInts w u hs[k] := by
  obtain ⟨A', c', vs, e, h1, h2, h3, h4, h5⟩ := h
  injection e with e1 e2 e3
  subst e1 e2 e3
  obtain ⟨ad, rfl, -, hc⟩ := h4.val (k := k) (by omega)
  exact ⟨ad, _, rfl, hc, h5 k _ _ (List.getElem?_eq_getElem (by omega)) (List.getElem?_eq_getElem hk)⟩

set_option maxHeartbeats 4000000 in
theorem sameHands_same (v1 v2 : Value) (hs : List (List Int)) (w : World) (h1 : IsRows w v1 hs) (h2 : IsRows w v2 hs) : Calls Try.prog 27 #[v1, v2] w (Says w (.bool true)) := by
  have H1 := hid h1
  have H2 := hid h2
  obtain ⟨A, c, _, rfl, hc, hm, _⟩ := h1
  obtain ⟨B, d, _, rfl, hd, hm', _⟩ := h2
  unfold maxLen at hm hm'
  go_enter Try.func27, Try.ntmps27
  go_wp2
  go_loopw [5] (fun i wr => ∃ k : Nat, k ≤ hs.length ∧ i = .int .i64 (k : Int) ∧ ∃ n, wr = w.drewN n) (fun i _ => hs.length - (intOf i).toNat)
  case atStart => exact ⟨0, Nat.zero_le _, rfl, 0, rfl⟩
  case round =>
    obtain ⟨k, hk, rfl, n, rfl⟩ := hrel
    by_cases h0 : k < hs.length
    · obtain ⟨ad, u, rfl, x0, x1⟩ := H1.out.row h0
      obtain ⟨ad', u', rfl, y0, y1⟩ := H2.out.row h0
      have EQ := hid (fun n => Equal_same u u' _ (w.drewN n) (x1.drewN n) (y1.drewN n))
      clear x1 y1
      have i0 : (0 : Int) ≤ (k : Int) := by omega
      have i1 : (k : Int) < (hs.length : Int) := by omega
      go_wp2
      go_quiet ((go_at_call 22; (first | exact q_says' (EQ.out _) | exact q_says (EQ.out _))))
      go_wp2
      exact ⟨⟨k + 1, by omega, by go_num, _, rfl⟩, by simp only [intOf]; omega⟩
    · obtain rfl : k = hs.length := by omega
      have i1 : ¬ (hs.length : Int) < (hs.length : Int) := by omega
      go_wp2
      go_ret
      exact ⟨rfl, _, rfl⟩

/-- What Deal hands back: no error. -/
def DealIs (w : World) (P : Nat) (hs : List (List Int)) (live dead : List Int) (e : Ending) (w' : World) : Prop :=
  ∃ A c A1 c1 A2 c2, e = .returned (.tuple #[.slice A P c, .slice A1 live.length c1, .slice A2 dead.length c2, .int .i64 0]) ∧ IsRows w' (.slice A P c) hs ∧ IsInts w' (.slice A1 live.length c1) live ∧ IsInts w' (.slice A2 dead.length c2) dead ∧ Grow w w'
theorem WallPart.perm {s : TSet} {l m : List Int} (h : WallPart s l) (hp : m.Perm l) : WallPart s m := ⟨fun t ht => h.1 t (hp.mem_iff.1 ht), hp.nodup_iff.2 h.2⟩
theorem dealErr_ok {s : TSet} {l : List Int} {cut d : Int} (e : chkErr s = 0) (h : WallPart s l) (hl : (l.length : Int) = sizeI s) (h0 : 0 ≤ cut) (h1 : cut < sizeI s) (h2 : 0 ≤ d) (h3 : d < s.pl) : dealErr s l cut d = 0 := by
  unfold dealErr
  rw [if_neg (by omega), if_neg (by have := h.once e; omega), if_neg (by omega)]
theorem dealt_len (s : TSet) (l : List Int) (cut d : Int) : (dealtI s l cut d).1.length = s.pl.toNat := by
  unfold dealtI; rw [dealF_len]; simp
theorem deal_is (v v2 : Value) (s : TSet) (l : List Int) (cut d : Int) (w : World) {P : Nat} (h : IsSet w v s) (h2 : IsInts w v2 l) (e : chkErr s = 0) (hp : WallPart s l) (hl : (l.length : Int) = sizeI s) (h0 : 0 ≤ cut) (h1 : cut < sizeI s) (hd0 : 0 ≤ d) (hd1 : d < s.pl) (hP : s.pl = (P : Int)) :
    Calls Try.prog 25 #[v, v2, .int .i64 cut, .int .i64 d] w (DealIs w P (dealtI s l cut d).1 (liveI s l cut d) (deadI s l cut d)) := by
  have he := dealErr_ok e hp hl h0 h1 hd0 hd1
  refine (Deal_any v v2 s l cut d w h h2).mono ?_
  rintro e w' ⟨v1, v2, v3, rfl, hg, -, hr⟩
  obtain ⟨i2, i3, G, vs, rfl, hb, hvl, hrows⟩ := hr he
  obtain ⟨A1, c1, rfl, _⟩ := id i2
  obtain ⟨A2, c2, rfl, _⟩ := id i3
  have hPn : s.pl.toNat = P := by omega
  have hV := valid_of ‹chkErr s = 0›
  have hp4 := hV.pl
  have hlen : (dealtI s l cut d).1.length = P := by rw [dealt_len]; exact hPn
  rw [hPn]
  exact ⟨_, _, A1, c1, A2, c2, by rw [he], hb.rows hvl hlen (by omega) hrows, i2, i3, hg⟩
/-- The wall that begins at the cut. -/
theorem dealt_cut (s : TSet) (l : List Int) (cut d : Int) : dealtI s (l.drop cut.toNat ++ l.take cut.toNat) 0 d = dealtI s l cut d := by
  unfold dealtI; simp
theorem live_cut (s : TSet) (l : List Int) (cut d : Int) : liveI s (l.drop cut.toNat ++ l.take cut.toNat) 0 d = liveI s l cut d := by
  unfold liveI; rw [dealt_cut]
theorem dead_cut (s : TSet) (l : List Int) (cut d : Int) : deadI s (l.drop cut.toNat ++ l.take cut.toNat) 0 d = deadI s l cut d := by
  unfold deadI; rw [dealt_cut]
theorem cut_perm (l : List Int) (k : Nat) : (l.drop k ++ l.take k).Perm l := by
  have := List.perm_append_comm (l₁ := l.drop k) (l₂ := l.take k)
  rwa [List.take_append_drop] at this
/-- Another dealer. -/
theorem dealt_other {s : TSet} {l : List Int} {cut : Int} {P D D' : Nat} (hP : s.pl = (P : Int)) (hd : D < P) (hd' : D' < P) {k : Nat} (hk : k < P) :
    (dealtI s l cut D).1.getD ((D + k) % P) [] = (dealtI s l cut D').1.getD ((D' + k) % P) [] := by
  unfold dealtI
  rw [hP]
  simp only [Int.toNat_natCast]
  exact dealF_rot hd hd' _ _ _ _ _ (by simp) (by simp) (fun k hk => by simp [List.getD, Nat.mod_lt _ (show 0 < P by omega)]) k hk
/-- Two appends to an empty literal. -/
theorem cat_two (t : TypeId) (ht : Try.prog.underlying t = some (.slice 3)) (ty1 ty2 : TypeId) (x y : Value) (xs ys : List Int) (w : World) (hx : IsInts w x xs) (hy : IsInts w y ys) (hl : xs.length + ys.length ≤ 1000000) :
    ∃ v1 w1 A c w2, (Builtin.append_ #[t, t] ty1 #[.slice (some ⟨w.heap.size, 0, none⟩) 0 0, x]).run Try.prog (w.alloc (.cells #[] 3)).drew = .ok v1 w1 ∧
      (Builtin.append_ #[t, t] ty2 #[v1, y]).run Try.prog w1 = .ok (.slice A (xs.length + ys.length) c) w2 ∧ IsInts w2 (.slice A (xs.length + ys.length) c) (xs ++ ys) ∧ Own w w2 (.slice A (xs.length + ys.length) c) (xs ++ ys) ∧ Grow w w2 := by
  have g0 : Grow w (w.alloc (.cells #[] 3)).drew := ((Grow.refl w).alloc _).drew
  have o0 : Own w (w.alloc (.cells #[] 3)).drew (.slice (some ⟨w.heap.size, 0, none⟩) 0 0) [] := (Own.lit0 (Grow.refl w)).keep fun _ _ => rfl
  obtain ⟨v1, w1, r1, o1, g1, b1⟩ := run_append_ints w _ t ty1 ht _ x [] xs o0 (hx.grow g0) (by simp; omega) g0
  rw [List.nil_append] at o1
  obtain ⟨v2, w2, r2, o2, g2, b2⟩ := run_append_ints w w1 t ty2 ht v1 y xs ys o1 (hy.grow g1) (by omega) g1
  obtain ⟨A, c, rfl, _⟩ := id o2.is
  rw [List.length_append] at r2 o2
  exact ⟨v1, w1, A, c, w2, r1, r2, o2.is, o2, g2⟩
end Go.Proofs.Ytjiahcfegfimmaa
