/-
  Walks of below, Word and Draw.
-/
import Derived.Test.YtjiahcfegfimmaaLcg
import Derived.Test.YtjiahcfegfimmaaSrc
import Derived.Test.YtjiahcfegfimmaaSizes
namespace Go.Proofs.Ytjiahcfegfimmaa
open Go.RowKit

theorem Word_any (x : Int) (w : World) : Calls Try.prog 103 #[.int .u64 x] w (Same w (.tuple #[.int .i64 (wordZ (stepZ x)), .int .u64 (stepZ x)])) := by
  go_enter Try.func103, Try.ntmps103
  go_wp2
  go_ret2
  exact ⟨rfl, rfl⟩

/-- A source of words: the block of its state. -/
def Lcg (w : World) (X : Nat) (x : Int) : Prop := Blk w X 83 [.int .u64 x]
def cellZ (w : World) (X : Nat) : Int := match w.cell? ⟨X, 0, none⟩ with
  | some (.int _ z) => z
  | _ => 0
theorem cellZ_of {w : World} {X : Nat} {x : Int} (h : Lcg w X x) : cellZ w X = x := by
  unfold cellZ
  rw [Blk.cell h 0]
  rfl
def DrawRes (X : Nat) (n x : Int) (w : World) (e : Ending) (w' : World) : Prop := e = .returned (.int .i64 (drawV n x)) ∧ Lcg w' X (drawX n x) ∧ But X w w'
theorem tmod_nonneg {a b : Int} (h : 0 ≤ a) : a.tmod b = a % b := Int.tmod_eq_emod_of_nonneg h

set_option maxRecDepth 100000 in
theorem below_any (X : Nat) (n x : Int) (w : World) (h : Lcg w X x) (n0 : 2 ≤ n) (n1 : n ≤ 1000) : Calls Try.prog 78 #[.pointer (some ⟨X, 0, none⟩), .int .i64 n] w (DrawRes X n x w) := by
  go_enter Try.func78, Try.ntmps78
  go_wp2
  go_loopw [6] (fun _ wr => ∃ y, Lcg wr X y ∧ But X w wr ∧ drawV n y = drawV n x ∧ drawX n y = drawX n x) (fun _ wr => drawK n (cellZ wr X))
  case atStart => exact ⟨x, h, But.refl _ _, rfl, rfl⟩
  case round =>
    clear h
    obtain ⟨y, hl, hb, hv, hx⟩ := hrel
    have c0 := Blk.cell hl 0
    have f0 := Blk.free hl 0
    simp only [List.getElem?_cons_zero] at c0
    have hz := hid (cellZ_of hl)
    have hl2 : Lcg (wr.setCell ⟨X, 0, none⟩ (.int .u64 (stepZ y))) X (stepZ y) := Blk.set hl 0 (.int .u64 (stepZ y))
    have hb2 : But X w (wr.setCell ⟨X, 0, none⟩ (.int .u64 (stepZ y))) := hb.set 0 _
    have hz2 := hid (cellZ_of hl2)
    have HL := hid (And.intro hl2 hb2)
    clear hl hb hl2 hb2
    by_cases hok : okZ n y
    · have hd := draw_ok hok
      have hlt : wrap64 (IntKind.u64.wrap (IntKind.u64.wrap (y * 6364136223846793005) + 1442695040888963407) / 8589934592) < wrap64 (2147483648 - 2147483648 % n) := hok
      have hw := (wordZ_eq (step_u64 y)).2.1
      have FIN := hid (show ∀ z, z = (wordZ (stepZ y)).tmod n → DrawRes X n x w (.returned (.int .i64 z)) (wr.setCell ⟨X, 0, none⟩ (.int .u64 (stepZ y))) from fun z hz => by
        subst hz
        refine ⟨by rw [tmod_nonneg hw, ← hv, hd.2], ?_, HL.out.2⟩
        rw [← hx, hd.1]
        exact HL.out.1)
      clear hok hd hw hv hx
      go_wp2
      go_ret
      exact FIN.out _ rfl
    · have hd := hid (draw_no n0 n1 hok)
      have hlt : ¬ wrap64 (IntKind.u64.wrap (IntKind.u64.wrap (y * 6364136223846793005) + 1442695040888963407) / 8589934592) < wrap64 (2147483648 - 2147483648 % n) := hok
      have HV := hid (And.intro hv hx)
      clear hok hv hx
      go_wp2
      refine ⟨⟨stepZ y, HL.out.1, HL.out.2, by rw [hd.out.2.1, HV.out.1], by rw [hd.out.1, HV.out.2]⟩, ?_⟩
      have e1 := hz.out
      have e2 := hz2.out
      have e3 := hd.out.2.2
      show drawK n (cellZ (wr.setCell ⟨X, 0, none⟩ (.int .u64 (stepZ y))) X) < drawK n (cellZ wr X)
      rw [e1, e2]
      exact e3

theorem lim_quo {n : Int} (h0 : 2 ≤ n) (h1 : n ≤ 1000) : 2147483648 / n * n = limZ n := by
  have h := (limZ_eq h0 h1).1
  have := Int.mul_ediv_add_emod 2147483648 n
  rw [h, Int.mul_comm]
  omega
set_option maxRecDepth 100000 in
theorem Draw_any (n x : Int) (w : World) (n0 : 2 ≤ n) (n1 : n ≤ 1000) : Calls Try.prog 80 #[.int .u64 x, .int .i64 n] w (Same w (.tuple #[.int .i64 (drawV n x), .int .u64 (drawX n x)])) := by
  have hq := lim_quo n0 n1
  have hl := limZ_eq n0 n1
  have q0 : 0 ≤ 2147483648 / n * n ∧ 2147483648 / n * n ≤ 2147483648 := by rw [hq]; omega
  have q1 := Int.ediv_nonneg (show (0 : Int) ≤ 2147483648 by omega) (show 0 ≤ n by omega)
  have q2 : 2147483648 / n ≤ 2147483648 := Int.ediv_le_self _ (by omega)
  have HQ := hid hq
  clear hq hl
  go_enter Try.func80, Try.ntmps80
  go_wp2
  go_loop [0, 7, 8, 13] (fun z _ _ _ => ∃ y, z = .int .u64 y ∧ drawV n y = drawV n x ∧ drawX n y = drawX n x) (fun z _ _ _ => drawK n (intOf z))
  case atStart => exact ⟨x, rfl, rfl, rfl⟩
  case round =>
    obtain ⟨y, rfl, hv, hx⟩ := hrel
    have hw := (wordZ_eq (step_u64 y)).2.1
    by_cases hok : okZ n y
    · have hd := draw_ok hok
      have hlt : wordZ (stepZ y) < 2147483648 / n * n := by rw [HQ.out]; exact hok
      have hdz := hid hd
      have HV := hid (And.intro hv hx)
      have FIN := hid (show ∀ z y', z = wordZ (stepZ y) % n → y' = stepZ y → Same w (.tuple #[.int .i64 (drawV n x), .int .u64 (drawX n x)]) (.returned (.tuple #[.int .i64 z, .int .u64 y'])) w from fun z y' hz hy => by
        subst hz hy
        refine ⟨?_, rfl⟩
        rw [← hv, ← hx, hd.1, hd.2])
      clear hd hok hv hx
      go_wp2_with (go_at_call 103; refine (Word_any y _).mono ?_; rintro e w1 ⟨rfl, rfl⟩)
      go_ret2
      exact FIN.out _ _ rfl rfl
    · have hd := hid (draw_no n0 n1 hok)
      have hlt : ¬ wordZ (stepZ y) < 2147483648 / n * n := by rw [HQ.out]; exact hok
      have HV := hid (And.intro hv hx)
      clear hok hv hx
      go_wp2_with (go_at_call 103; refine (Word_any y _).mono ?_; rintro e w1 ⟨rfl, rfl⟩)
      refine ⟨⟨stepZ y, rfl, by rw [hd.out.2.1, HV.out.1], by rw [hd.out.1, HV.out.2]⟩, ?_⟩
      exact hd.out.2.2
end Go.Proofs.Ytjiahcfegfimmaa
