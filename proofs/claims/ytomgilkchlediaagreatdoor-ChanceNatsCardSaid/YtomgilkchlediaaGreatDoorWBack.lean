/-
  The walk of the law ChanceBack.
-/
import Derived.Test.YtomgilkchlediaaGreatDoorParseZ
import Derived.Test.YtomgilkchlediaaGreatDoorNatOf
import Derived.Test.YtomgilkchlediaaGreatDoorAwake
namespace Go.Proofs.YtomgilkchlediaaGreatDoor
open Go.RowKit

theorem strB_self (s : ByteArray) : s = strB s.data.toList := by
  apply ByteArray.ext
  simp [strB]
/-- It gives a text and no error. -/
def GivesT (w : World) (l : List UInt8) (e : Ending) (w' : World) : Prop := e = .returned (.tuple #[.string (strB l), .int .i64 0]) ∧ Grow w w'
theorem Text_ok (v : Value) (zs : List Int) (w : World) (h : IsInts w v zs) (hp : Pow10 w) (hn : natErr zs = 0) : Calls Tryz.prog 8 #[v] w (GivesT w (textL zs)) :=
  (Text_any v zs w h hp).mono fun e w' ⟨he, hg⟩ => ⟨by rw [he, hn, if_pos rfl], hg⟩
/-- Text of a natural that is known by its value. -/
theorem Text_nat (A : Option Addr) (m c : Nat) (l : List UInt8) (w : World) (hl : parseErr l = 0) (h : IsNat w (.slice A m c) (parseN l)) (hp : Pow10 w) : Calls Tryz.prog 8 #[.slice A m c] w (GivesT w l) := by
  obtain ⟨zs, hc, hv, hi⟩ := h
  obtain ⟨ys, k1, k2, k3, k4⟩ := back_two hl
  have e : zs = ys := canon_eq hc k1 (hv.trans k3.symm)
  subst e
  have hn : natErr zs = 0 := natErr_canon hc k2
  have := Text_ok _ zs w hi hp hn
  rwa [k4] at this

set_option maxRecDepth 100000 in
set_option maxHeartbeats 4000000 in
theorem walkChanceBack (v0 : Value) (ns : List Int) (S : ByteArray) (w : World) (h0 : IsInts w v0 ns) (hS : S.size ≤ maxLen) (hp : Pow10 w) :
    Calls Tryz.prog 3 #[v0, .string S] w (Gives w (.bool true)) := by
  have H0 := hid h0
  have HP := hid hp
  clear h0 hp
  have AW := hid (fun W (hg : Grow w W) => (awake_any W).mono (fun e w' h => (⟨h.1, hg.trans h.2⟩ : Gives w (.bool true) e w')))
  obtain ⟨n, hn⟩ : ∃ n, S.size = n := ⟨_, rfl⟩
  have HS := hid (strB_self S)
  have hl : S.data.toList.length = n := by rw [← hn]; rfl
  generalize S.data.toList = l at *
  have HL := hid hl
  unfold maxLen at hS
  rw [hn] at hS
  clear hl
  by_cases b1 : 400 < n
  · have d1 : (400 : Int) < (n : Int) := by omega
    go_enter Tryz.func3, Tryz.ntmps3
    go_wp2_with fail
    refine (AW.out _ (Grow.refl _)).mono ?_
    rintro e w1 ⟨rfl, g1⟩
    go_wp2
    go_ret
    exact ⟨rfl, g1⟩
  · have d1 : ¬ (400 : Int) < (n : Int) := by omega
    have PL := hid (fun W => Parse_any l W (by have := HL.out; omega))
    rw [← HS.out] at PL
    go_enter Tryz.func3, Tryz.ntmps3
    go_wp2_with fail
    refine (NewSource_any _ _ _ H0.out).mono ?_
    rintro e wA ⟨g, rfl, gg, hs1, hg1⟩
    go_wp2_with fail
    refine (NatOf_any g 40 _ hs1 (by omega) (by omega)).mono ?_
    rintro e wB ⟨vB, zs, rfl, hz, hc, hl40, hs2, hb2⟩
    have hg2 := hid (hb2.grow hg1 gg)
    have hne : natErr zs = 0 := natErr_canon hc (by omega)
    have TX := hid (fun W (hg : Grow wB W) => Text_ok vB zs W (hz.1.grow hg) (HP.out.grow (hg2.out.trans hg)) hne)
    have hbk := back_one hc (by omega)
    have htl : (textL zs).length ≤ 1000000 := by
      unfold textL
      split
      · simp
      · have := txt_len hc.1; omega
    have PT := hid (fun W => Parse_any (textL zs) W htl)
    have HBK := hid hbk
    have HZN := hid (show IsNat wB vB (val zs) from ⟨zs, hc, rfl, hz.1⟩)
    have HNE := hid hne
    obtain ⟨AB, cB, rfl, _⟩ := hz.1
    clear hs1 hg1 hs2 hb2 hc hl40 hz hne hbk htl
    generalize textL zs = tz at *
    go_wp2_with fail
    refine (TX.out _ (Grow.refl _)).mono ?_
    rintro e wC ⟨rfl, gC⟩
    go_wp2_with fail
    refine (PT.out _).mono ?_
    rintro e wD ⟨A1, m1, c1, rfl, gD, _, hnat⟩
    have hnat := hnat HBK.out.1
    rw [HBK.out.2] at hnat
    have SN := hid (SameNat_same (.slice AB zs.length cB) (.slice A1 m1 c1) (val zs) wD (HZN.out.grow (gC.trans gD)) hnat)
    have hgD := hid ((hg2.out.trans gC).trans gD)
    rw [HBK.out.1]
    clear hnat gC gD hg2
    go_wp2_with fail
    refine SN.out.mono ?_
    rintro e wE ⟨rfl, nE, rfl⟩
    have hgE := hid (hgD.out.drewN nE)
    go_wp2_with fail
    refine (PL.out _).mono ?_
    rintro e wF ⟨A2, m2, c2, rfl, gF, hbad, hok⟩
    have hgF := hid (hgE.out.trans gF)
    by_cases he : parseErr l = 0
    · have TL := hid (Text_nat A2 m2 c2 l wF he (hok he) (HP.out.grow hgF.out))
      rw [he]
      clear hbad hok he gF
      go_wp2_with fail
      refine TL.out.mono ?_
      rintro e wG ⟨he, gG⟩
      rw [← HS.out] at he
      subst he
      go_wp2_with fail
      refine (AW.out _ (hgF.out.trans gG)).mono ?_
      rintro e w8 ⟨rfl, g8⟩
      go_wp2
      go_ret
      exact ⟨rfl, g8⟩
    · obtain ⟨rfl, rfl, rfl⟩ := hbad he
      have hne2 : (parseErr l != 0) = true := by simp [he]
      clear hbad hok he gF
      generalize parseErr l = pe at *
      go_wp2_with fail
      refine (AW.out _ hgF.out).mono ?_
      rintro e w8 ⟨rfl, g8⟩
      go_wp2
      go_ret
      exact ⟨rfl, g8⟩
end Go.Proofs.YtomgilkchlediaaGreatDoor
