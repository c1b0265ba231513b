/-
  The walk of the law ChanceOrders.
-/
import Derived.Test.YtgphdaipgodjgaaWOrders
import Derived.Test.YtgphdaipgodjgaaRacingE
import Derived.Test.YtgphdaipgodjgaaWWays
import Derived.Deep.DeepCutAuto
import Derived.Deep.RegionHeld3
namespace Go.Proofs.Ytgphdaipgodjgaa
open Go.RowKit

theorem Small_nat (v : Value) (a : Int) (w : World) (h : IsNat w v a) (h1 : a < 1000000000) : Calls Try.prog 45 #[v] w (Same w (.int .i64 a)) := by
  obtain ⟨zs, hc, rfl, A, c, rfl, hl, hm, hr⟩ := h
  unfold maxLen at hm
  have hfin : ∀ z, z = val zs → Same w (.int .i64 (val zs)) (.returned (.int .i64 z)) w := fun z hz => ⟨by rw [hz], rfl⟩
  have HF := hid hfin
  clear hfin
  match zs, hc, h1, hl, hr, HF with
  | [], _, _, _, _, HF =>
    go_enter Try.func45, Try.ntmps45
    go_wp2
    go_ret
    exact HF.out _ rfl
  | [x], _, _, _, hr, HF =>
    obtain ⟨ad, rfl, _, hx⟩ := hr.int (k := 0) (by simp)
    simp only [List.getElem_cons_zero] at hx
    rw [show ad.add 0 = ad by simp [Addr.add]] at hx
    have HE := hid (show x = val [x] by simp [val])
    go_enter Try.func45, Try.ntmps45
    go_wp2
    go_ret
    exact HF.out _ HE.out
  | x :: y :: l, hc, h1, _, _, _ =>
    exfalso
    have h := hc.lower (by simp)
    have h2 := radix_mono (show 1 ≤ (x :: y :: l).length - 1 by simp)
    have h3 : radix 1 = 1000000000 := by decide
    omega

section
variable {ops : Array Oper} {rest : List Oper} {o : Oper} {a : Act} {Q : Exit → Act → World → Prop}
/-- 'append(out, l...)': a whole row behind an owned one. -/
theorem run_append_row (w0 w : World) (e t ty : TypeId) (z : Value) (bytes : Nat) (hi : (Try.prog.info? e).map (fun i => (i.zero, i.size, i.bytes)) = some (some z, 1, bytes)) (hz : z.cells = #[z]) (hb : bytes ≤ 64) (ht : Try.prog.underlying t = some (.slice e))
    (v : Value) (vs us : List Value) (hown : OwnV w0 w e v vs) (A : Option Addr) (n c : Nat) (hn : us.length = n) (hr : Rd w A us) (h1 : ∀ u ∈ us, u.oneCell' = true) (hl : vs.length + us.length ≤ 1000000000) (hg : Grow w0 w) :
    ∃ v' w', (Builtin.append_ #[t, t] ty #[v, .slice A n c]).run Try.prog w = .ok v' w' ∧ OwnV w0 w' e v' (vs ++ us) ∧ Grow w0 w' ∧ w.grownBy w' v.ownBlock := by
  subst hn
  obtain ⟨i0, hi0, hz0, hz1, hz2⟩ := info_parts hi
  have hbb : (vs.length + us.length) * bytes ≤ 1000000000 * 64 := Nat.mul_le_mul hl hb
  cases A with
  | none =>
    have hz : us = [] := by
      cases us with
      | nil => rfl
      | cons u us => obtain ⟨ad, h, _⟩ := hr 0 u (by simp); cases h
    subst hz
    refine ⟨v, w, ?_, by simpa using hown, hg, World.grownBy.refl w _⟩
    rcases hown.2 with ⟨rfl, hn⟩ | ⟨g, cap, cur, rfl, _, _, hnc, _⟩
    · simp [Builtin.append_, run_underlying ht, sizeOf, typeInfo, hi0, Builtin.lenOf, Builtin.firstCells]
    · simp [Builtin.append_, run_underlying ht, sizeOf, typeInfo, hi0, Builtin.lenOf, Builtin.firstCells, hnc, storeCells]
  | some ad =>
    have hcells : ∀ (j : Nat) (u : Value), us[j]? = some u → w.cell? (ad.add j) = some u := fun j u hu => by
      obtain ⟨ad', h1, _, h2⟩ := hr j u hu
      obtain rfl := Option.some.inj h1
      exact h2
    obtain ⟨v', w', hrun, h1, h2, _⟩ := run_append_own (P := Try.prog) w w0.heap.size t ty e i0 z 1 bytes ht hi0 hz0 hz1 hz2 (by rw [hz]; rfl) (by decide) v vs.length vs hown ad us.length c us (by simp) hcells h1 (by unfold maxLen; omega) (by omega) hg.size
    refine ⟨v', w', hrun, ?_, hg.own h2 hown.block, h2⟩
    unfold OwnV
    rw [List.length_append]
    exact h1
theorem step_append_row {K : Act → World → Prop} {E : Prop} (w0 w : World) (e : TypeId) (z : Value) (bytes : Nat) (hi : (Try.prog.info? e).map (fun i => (i.zero, i.size, i.bytes)) = some (some z, 1, bytes)) (hz : z.cells = #[z]) (hb : bytes ≤ 64) (hgd : o.guard = none) (s x : Operand) (t : TypeId)
    (ho : o.op = .call { callee := .builtin .append, args := #[s, x], argTypes := #[t, t] }) (ht : Try.prog.underlying t = some (.slice e))
    (v : Value) (vs us : List Value) (hs : a.eval s = v) (hown : OwnV w0 w e v vs) (A : Option Addr) (n c : Nat) (hx : a.eval x = .slice A n c) (hn : us.length = n) (hr : Rd w A us) (h1 : ∀ u ∈ us, u.oneCell' = true) (hl : vs.length + us.length ≤ 1000000000) (hg : Grow w0 w)
    (h : ∀ v' w', OwnV w0 w' e v' (vs ++ us) → Grow w0 w' → w.grownBy w' v.ownBlock → K (a.put o.dst v') w') :
    if Region.wanted o (yielded ops a.tmps) = true then Oper.wp Try.prog o a w K Q else E := by
  have hw : Region.wanted o (yielded ops a.tmps) = true := by simp [Region.wanted, hgd]
  rw [if_pos hw]
  obtain ⟨v', w', hr, h2, h3, h4⟩ := run_append_row w0 w e t o.type z bytes hi hz hb ht v vs us hown A n c hn hr h1 hl hg
  unfold Oper.wp execOp
  simp only [ho, resolve, invoke, builtin, Sem.run_bind, Sem.run_pure, Result.andThen_ok, List.map_toArray, List.map_cons, List.map_nil, hs, hx, hr]
  exact h v' w' h2 h3 h4
end

/-- What an order counts, and what a race counts, of few tiles. -/
structure OrdLaw (zs : List Int) (ws : List (List Int)) (F D N : Nat) : Prop where
  win : ∀ s, s < ws.length → raceF zs ws F D s * fact N = ordC (ksTo zs zs.length) ws D (List.replicate N false) F s * raceA zs ws
  non : raceN zs ws D * fact N = ordC (ksTo zs zs.length) ws D (List.replicate N false) F ws.length * raceA zs ws
  win0 : ∀ s, s < ws.length → 0 ≤ raceF zs ws F D s ∧ raceF zs ws F D s ≤ 1000
  non0 : 0 ≤ raceN zs ws D ∧ raceN zs ws D ≤ 1000
  all0 : 0 ≤ raceA zs ws ∧ raceA zs ws ≤ 1000
  ord0 : ∀ s, 0 ≤ ordC (ksTo zs zs.length) ws D (List.replicate N false) F s ∧ ordC (ksTo zs zs.length) ws D (List.replicate N false) F s ≤ 5040
  len : (ksTo zs zs.length).length = N
theorem freeN_rep (n : Nat) : freeN (List.replicate n false) = n := by
  unfold freeN
  rw [List.filter_replicate]
  simp
theorem ordLaw {zs : List Int} {ws : List (List Int)} {F D N : Nat} (hz : Within 0 4 zs) (hl : zs.length ≤ 34) (hN : sumI zs = N) (hN7 : N ≤ 7) (hD : D ≤ N) : OrdLaw zs ws F D N := by
  have hlen : (ksTo zs zs.length).length = N := by
    have := ksTo_len hz zs.length
    rw [List.take_length, hN] at this
    omega
  obtain ⟨m, hm⟩ : ∃ m : Nat, markAll zs ws = m := Int.eq_ofNat_of_zero_le (markM_le hz ws zs.length).1
  have hmN : m ≤ N := by
    have := (markM_le hz ws zs.length).2
    rw [List.take_length, hN] at this
    have h2 : markM zs ws zs.length = m := hm
    omega
  have hfr : Fresh (ksTo zs zs.length) ws (List.replicate N false) := ⟨by simp [hlen], fun i hi _ => by
    rw [List.getD_eq_getElem?_getD, List.getElem?_replicate, if_pos (by omega)]; rfl⟩
  have he : ∀ s, ordC (ksTo zs zs.length) ws D (List.replicate N false) F s = ordF (ksTo zs zs.length) ws m D N F s := fun s =>
    ordC_eq _ ws m (by rw [ksTo_ask hz, hm]) D N _ F s hfr (freeN_rep N) hmN hD
  obtain ⟨o1, o2⟩ := orders_race (F := F) hz hN hD hm
  have hA : 0 ≤ raceA zs ws ∧ raceA zs ws ≤ 1000 := by
    unfold raceA
    rw [hm, hN]
    by_cases h0 : m = 0
    · subst h0; simp
    · rw [if_neg (by omega), chooseI_nat]
      have h1 := binom_le N m
      have h2 : (2 : Nat) ^ N ≤ 2 ^ 7 := Nat.pow_le_pow_right (by omega) hN7
      have h3 : binom N m * m ≤ 128 * 7 := Nat.mul_le_mul (by omega) (by omega)
      have h4 : (binom N m : Int) * (m : Int) = ((binom N m * m : Nat) : Int) := (Int.natCast_mul _ _).symm
      rw [h4]
      omega
  have hb := race_bounds (ws := ws) (D := D) hz hN (by omega) hD
  have hall := race_all (ws := ws) (F := F) (D := D) hz hN hD
  have hnn := fun s => raceF_nonneg (ws := ws) (F := F) (D := D) hz hl hN (by omega) s
  refine ⟨fun s hs => by rw [he, o1 s hs], by rw [he, o2], fun s hs => ⟨hnn s, ?_⟩, ⟨hb.1, by omega⟩, hA, fun s => ⟨ordC_nonneg _ _ _ _ _ _, ?_⟩, hlen⟩
  · have := sumF_one hnn hs
    omega
  · have h1 := ordC_le (ksTo zs zs.length) ws D (List.replicate N false) F s (by simp [hlen])
    rw [freeN_rep] at h1
    have := fact_le hN7
    omega

set_option maxRecDepth 100000 in
set_option maxHeartbeats 16000000 in
theorem walkChanceOrders (v : Value) (ns : List Int) (f0 d0 : Int) (w : World) (h : IsInts w v ns) (_hz : ∀ z ∈ ns, (Lit.int .i64 z).wf = true) (wf : (Lit.int .i64 f0).wf = true) (wd : (Lit.int .i64 d0).wf = true) :
    Calls Try.prog 10 #[v, .int .i64 f0, .int .i64 d0] w (Gives w (.bool true)) := by
  obtain ⟨fa, fb⟩ := wf_range wf
  obtain ⟨da, db⟩ := wf_range wd
  clear wf wd _hz
  go_enter Try.func10, Try.ntmps10
  go_wp2_with fail
  refine (NewSource_any _ _ _ h).mono ?_
  rintro e wA ⟨g, rfl, gg, hs1, hg1⟩
  clear h
  go_wp2_with fail
  refine (Range_any g 1 5 _ hs1 (by omega) (by omega) (by omega)).mono ?_
  rintro e wB ⟨K, rfl, k0, k1, hs2, hb2⟩
  obtain ⟨K, rfl⟩ := Int.eq_ofNat_of_zero_le (show 0 ≤ K by omega)
  have hg2 := hb2.grow hg1 gg
  clear hs1 hg1 hb2
  go_wp2_with fail
  refine (UnseenOf_any g K 7 _ hs2 (by omega) (by omega) (by omega)).mono ?_
  rintro e wC ⟨G, zs, rfl, bG, hG, hlK, hzw, hsum, hs3, hb3⟩
  have hg3 := hb3.grow hg2 gg
  have hGg : G ≠ g := by have := hs2.lt; omega
  have hzl : zs.length ≤ 5 := by omega
  have hz1 : 1 ≤ zs.length := by omega
  have HZ := hid hzw
  have HU := hid (ok_unErr (by omega) (by omega) hzw)
  obtain ⟨M, hM⟩ := Int.eq_ofNat_of_zero_le (show 0 ≤ sumI zs by have := hzw.sum; omega)
  have hM7 : M ≤ 7 := by omega
  have HM := hid hM
  clear hs2 hg2 hb3 hG hlK hsum hzw k0 k1 hM
  go_wp2_with fail
  refine (Range_any g 1 3 _ hs3 (by omega) (by omega) (by omega)).mono ?_
  rintro e wD ⟨S, rfl, s0, s1, hs4, hb4⟩
  obtain ⟨S, rfl⟩ := Int.eq_ofNat_of_zero_le (show 0 ≤ S by omega)
  have bG4 := hb4.blk bG hGg
  have hg4 := hb4.grow hg3 gg
  clear bG hs3 hg3 hb4
  go_wp2_with fail
  refine (WaitsOf_any g S zs.length _ hs4 (by omega) (by omega)).mono ?_
  rintro e wE ⟨vW, ws, rfl, iW, hwl, hris, hs5, hb5⟩
  obtain rfl : S = ws.length := by omega
  have bG5 := hb5.blk bG4 hGg
  have hg5 := hb5.grow hg4 gg
  obtain ⟨WA, WC, rfl, _, _⟩ := iW.open_
  have HW := hid iW
  have HRI := hid hris
  have BG := hid bG5
  have IG := hid (bG5.is (zs := zs) (by unfold maxLen; omega))
  clear bG4 hs4 hg4 hb5 hwl hs5 bG5 iW hris
  have TOT := hid (fun W (hg : Grow wE W) => (by
    have h := ltotal_any _ zs W (IG.out.grow hg) (fun z hz => by have := HZ.out z hz; omega) (by omega)
    rwa [HM.out] at h : Calls Try.prog 39 #[.slice (some ⟨G, 0, none⟩) zs.length zs.length] W (Same W (.int .i64 (M : Int)))))
  have gE : Grow wE wE := Grow.refl _
  go_wp2_with fail
  refine (TOT.out _ gE).mono ?_
  rintro e w4 ⟨rfl, rfl⟩
  go_wp2_with fail
  refine (Into_any f0 (ws.length : Int) _ fa fb (by omega) (by omega)).mono ?_
  rintro e w4 ⟨rfl, rfl⟩
  have e0 := Int.emod_nonneg f0 (show (ws.length : Int) ≠ 0 by omega)
  have e1 := Int.emod_lt_of_pos f0 (show 0 < (ws.length : Int) by omega)
  generalize f0 % (ws.length : Int) = F at *
  obtain ⟨F, rfl⟩ := Int.eq_ofNat_of_zero_le e0
  go_wp2_with fail
  refine (Into_any d0 ((M : Int) + 1) _ da db (by omega) (by omega)).mono ?_
  rintro e w4 ⟨rfl, rfl⟩
  have e2 := Int.emod_nonneg d0 (show (M : Int) + 1 ≠ 0 by omega)
  have e3 := Int.emod_lt_of_pos d0 (show 0 < (M : Int) + 1 by omega)
  generalize d0 % ((M : Int) + 1) = D at *
  obtain ⟨D, rfl⟩ := Int.eq_ofNat_of_zero_le e2
  have hFl : F < ws.length := by omega
  have hDM : D ≤ M := by omega
  clear e0 e1 e2 e3 fa fb da db
  have OL := hid (ordLaw (ws := ws) (F := F) (D := D) HZ.out (by omega) HM.out hM7 hDM)
  have RG := hid (Racing_good _ _ zs ws F D wE IG.out HW.out HU.out HRI.out (by omega) hFl (by rw [HM.out]; omega))
  go_wp2_with fail
  refine RG.out.mono ?_
  rintro e w5 ⟨v5, rfl, k5, g5⟩
  obtain ⟨A1, c1, B1, m1, d1, C1, k1, e1, rfl, x1, x2, x3⟩ := k5.open_
  have y0 : Blk (w5.alloc (.cells #[.slice A1 ws.length c1, .slice B1 m1 d1, .slice C1 k1 e1] 60)) w5.heap.size 60 [.slice A1 ws.length c1, .slice B1 m1 d1, .slice C1 k1 e1] := Blk.new_at rfl
  have gn := (Grow.refl w5).alloc (.cells #[.slice A1 ws.length c1, .slice B1 m1 d1, .slice C1 k1 e1] 60)
  have gx := g5.trans gn
  have q0 := y0.cell 0
  have q1 := y0.cell 1
  have q2 := y0.cell 2
  simp only [List.getElem?_cons_zero, List.getElem?_cons_succ] at q0 q1 q2
  have Q := hid (fun W (hg : Grow (w5.alloc (.cells #[.slice A1 ws.length c1, .slice B1 m1 d1, .slice C1 k1 e1] 60)) W) => And.intro (hg.cell_some q0) (And.intro (hg.cell_some q1) (And.intro (hg.cell_some q2) (And.intro ((x1.grow gn).grow hg) (And.intro ((x2.grow gn).grow hg) ((x3.grow gn).grow hg))))))
  have hl1 : ((ws.length : Int) != (ws.length : Int)) = false := by simp
  have hl2 : (ws.length != ws.length) = false := by simp
  clear k5 x1 x2 x3 y0 gn g5 q2 RG
  go_wp2
  generalize w5.alloc (.cells #[.slice A1 ws.length c1, .slice B1 m1 d1, .slice C1 k1 e1] 60) = w6 at *
  generalize w5.heap.size = P1 at *
  clear q0 q1
  have HG := hid hg5
  have HX := hid gx
  have BG6 := hid (BG.out.grow gx)
  clear hg5 gx
  go_loopw [14, 15] (fun v i wr => ∃ (k : Nat) (u : Value), u = v ∧ k ≤ zs.length ∧ i = .int .i64 (k : Int) ∧ Own w6 wr v (ksTo zs k) ∧ Grow w6 wr) (fun _ i _ => zs.length - (intOf i).toNat)
  case atStart => exact ⟨0, _, rfl, Nat.zero_le _, rfl, Own.nil _ _, Grow.refl _⟩
  case round =>
    obtain ⟨k, v, rfl, hk, rfl, ho, hg⟩ := hrel
    by_cases hlt : k < zs.length
    · have hx := (BG6.out.grow hg).cell_int hlt
      have hb := HZ.out.at_ hlt
      obtain ⟨J, hJ⟩ := Int.eq_ofNat_of_zero_le hb.1
      have i0 : (0 : Int) ≤ (k : Int) := by omega
      have i1 : (k : Int) < (zs.length : Int) := by omega
      have hos : (ksTo zs k).length ≤ 200 := by
        have h1 := ksTo_len HZ.out k
        have h2 := (HZ.out.take k).sum
        rw [List.length_take] at h2
        omega
      rw [hJ] at hx
      have HJ := hid (show ksTo zs (k + 1) = ksTo zs k ++ List.replicate J (k : Int) by
        rw [ksTo, show zs.getD k 0 = (J : Int) by simp [List.getD, hlt, hJ], Int.toNat_natCast])
      have hJ4 : J ≤ 4 := by omega
      have HJ2 := hid hJ
      clear hJ hb
      obtain ⟨wo, rfl⟩ : ∃ wo : World, wo = wr := ⟨_, rfl⟩
      have HO := hid ho
      have HGO := hid hg
      clear ho hg hx
      go_wp2
      go_loopw [14, 16] (fun v i wr => ∃ (j : Nat) (u : Value), u = v ∧ j ≤ J ∧ i = .int .i64 (j : Int) ∧ Own w6 wr v (ksTo zs k ++ List.replicate j (k : Int)) ∧ Grow w6 wr) (fun _ i _ => J - (intOf i).toNat)
      case atStart => exact ⟨0, _, rfl, Nat.zero_le _, rfl, by simpa using HO.out, HGO.out⟩
      case round =>
        obtain ⟨j, v, rfl, hj, rfl, ho, hg⟩ := hrel
        have hx := (BG6.out.grow hg).cell_int hlt
        rw [HJ2.out] at hx
        by_cases hlj : j < J
        · have i2 : (j : Int) < (J : Int) := by omega
          have hl2 : (ksTo zs k ++ List.replicate j (k : Int)).length ≤ 1000000000000 := by rw [List.length_append, List.length_replicate]; omega
          obtain ⟨A, c, rfl, _⟩ := id ho.is
          go_wp2_with (at_builtin; refine wpList_append_int w6 wr (k : Int) rfl (.tmp 75) (.tmp 77) _ (by rfl) Try.underlying22 _ (ksTo zs k ++ List.replicate j (k : Int)) (by rfl) ho (by rfl) hl2 hg ?_; intro v' w' ho5 hg5)
          exact ⟨⟨j + 1, _, rfl, by omega, by go_num, by rw [List.replicate_succ', ← List.append_assoc]; exact ho5, hg5⟩, by simp only [intOf]; omega⟩
        · obtain rfl : j = J := by omega
          rw [← HJ.out] at ho
          go_wp2
          exact ⟨⟨k + 1, _, rfl, by omega, by go_num, ho, hg⟩, by simp only [intOf]; omega⟩
    · obtain rfl : k = zs.length := by omega
      have iK := ho.is
      obtain ⟨KA, KC, rfl, _⟩ := id iK
      have hlen := OL.out.len
      have HIK := hid iK
      have HLEN := hid hlen
      have HGW := hid hg
      clear iK hlen ho
      go_wp2_with (first
        | (at_make; refine wpList_make_blk wr _ rfl (.tmp 80) (.tmp 80) _ rfl 3 (.int .i64 0) 8 Try.underlying22 infoInt rfl _ _ _ _ (ws.length + 1) rfl rfl (by omega) (by omega) (by omega) (by omega) (Grow.refl _) ?_; intro V wV hbV hV _ hgV _)
        | (at_make; refine wpList_make_blk wV _ rfl (.tmp 83) (.tmp 83) _ rfl 4 (.bool false) 1 Try.underlying66 infoBool rfl _ _ _ _ M rfl rfl (by omega) (by omega) (by omega) (by omega) (Grow.refl _) ?_; intro U wU hbU hU _ hgU _))
      have hUV : U ≠ V := by have := hbV.lt; omega
      have hU' : wr.heap.size ≤ U := by have := hgV.size; omega
      have st : OrdSt wr U V (List.replicate M false) (List.replicate (ws.length + 1) 0) wU := ⟨hgV.trans hgU, by simpa [bools] using hbU, by simpa [ints] using hbV.grow hgU⟩
      have GR := hid (hgV.trans hgU)
      have ORD := hid (orders_any (w0 := wr) (U := U) (V := V) _ _ (ksTo zs zs.length) ws HIK.out ((HW.out.grow HX.out).grow HGW.out) hU' hV hUV (by rw [HLEN.out]; omega) (by omega) (by omega) M (ws.length + 1) HLEN.out.symm rfl D (List.replicate M false) (List.replicate (ws.length + 1) 0) F wU (by simp [HLEN.out]) (by simp) hFl (by omega) (fun s hs => by
        have h1 := OL.out.ord0 s
        have h2 : (List.replicate (ws.length + 1) (0 : Int)).getD s 0 = 0 := by
          rw [List.getD_eq_getElem?_getD, List.getElem?_replicate]
          split <;> rfl
        rw [h2]; omega) st)
      clear hbU hbV st hU hU'
      go_wp2_with fail
      refine ORD.out.mono ?_
      rintro e wO ⟨rfl, ys, hcn, hst⟩
      have gO := hst.1
      have bV := hst.2.2
      have hyl : ys.length = ws.length + 1 := by have := hcn.1; simpa using this
      have HY := hid (fun s (hs : s ≤ ws.length) => (by
        have h1 := hcn.2 s hs
        have h2 : (List.replicate (ws.length + 1) (0 : Int)).getD s 0 = 0 := by
          rw [List.getD_eq_getElem?_getD, List.getElem?_replicate]
          split <;> rfl
        rw [h2, Int.zero_add] at h1
        exact h1 : ys.getD s 0 = ordC (ksTo zs zs.length) ws D (List.replicate M false) F s))
      have HYL := hid hyl
      have HBV := hid bV
      have hgO := hg.trans gO
      clear hcn hst hyl bV gO
      go_wp2
      go_loop [18, 19] (fun n i => ∃ k : Nat, 2 ≤ k ∧ (k ≤ M + 1 ∨ k = 2) ∧ i = .int .i64 (k : Int) ∧ n = .int .i64 (fact (k - 1))) (fun _ i => M + 2 - (intOf i).toNat)
      case atStart => exact ⟨2, Nat.le_refl _, .inr rfl, rfl, rfl⟩
      case round =>
        obtain ⟨k, hk2, hk, rfl, rfl⟩ := hrel
        by_cases hlt : k ≤ M
        · have i1 : (k : Int) ≤ (M : Int) := by omega
          have hmul : fact (k - 1) * (k : Int) = fact (k + 1 - 1) := by
            obtain ⟨j, rfl⟩ : ∃ j, k = j + 1 := ⟨k - 1, by omega⟩
            rw [Nat.add_sub_cancel, Nat.add_sub_cancel, fact_succ, Int.mul_comm]
          have p1 := fact_pos (k + 1 - 1)
          have p2 := fact_le (k := k + 1 - 1) (by omega)
          rw [← hmul] at p1 p2
          have HM2 := hid hmul
          clear hmul
          go_wp2
          exact ⟨⟨k + 1, by omega, by omega, by go_num, by rw [HM2.out]⟩, by simp only [intOf]; omega⟩
        · have hf : fact (k - 1) = fact M := by
            by_cases hM : 1 ≤ M
            · obtain rfl : k = M + 1 := by omega
              rfl
            · obtain rfl : M = 0 := by omega
              obtain rfl : k = 2 := by omega
              rfl
          rw [hf]
          have f1 := fact_pos M
          have f2 := fact_le hM7
          generalize hFM : fact M = FM at *
          have HFM := hid hFM
          clear hf hFM
          have ng : ¬ (k : Int) ≤ (M : Int) := by omega
          obtain ⟨p0, p1, p2, n1, n2, n3⟩ := Q.out _ hgO
          obtain ⟨A1', c1', us, ev, u1, u2, u3, u4, u5⟩ := n1
          injection ev with e1 e2 e3
          subst e1 e3
          have KS := hid (fun W (hg : Grow wO W) => (⟨hg, hg.cell_some p0, hg.cell_some p1⟩ : Grow wO W ∧ W.cell? ⟨P1, 0, none⟩ = some (.slice A1 ws.length c1) ∧ W.cell? ⟨P1, 1, none⟩ = some (.slice B1 m1 d1)))
          have uone : ∀ u ∈ us, u.oneCell' = true := fun u hu => by
            obtain ⟨i, hi, rfl⟩ := List.getElem_of_mem hu
            obtain ⟨A, m, c, e⟩ := (u5 i _ (List.getElem?_eq_getElem hi)).open_
            rw [e]; rfl
          have O1 : OwnV wO ((wO.alloc (.cells #[] 23)).drew) 23 (.slice (some ⟨wO.heap.size, 0, none⟩) 0 0) [] := (OwnV.lit wO [] (Grow.refl _) (by simp)).kept ((Grow.refl _).drew)
          have O2 : OwnV wO ((wO.alloc (.cells #[] 23)).alloc (.cells #[.slice B1 m1 d1] 23)).drew 23 (.slice (some ⟨wO.heap.size, 0, none⟩) 0 0) [] := (OwnV.lit wO [] (Grow.refl _) (by simp)).kept ((((Grow.refl _).alloc _)).drew)
          have O3 : OwnV wO ((wO.alloc (.cells #[.slice B1 m1 d1] 23)).alloc (.cells #[] 23)).drew 23 (.slice (some ⟨wO.heap.size + 1, 0, none⟩) 0 0) [] := by
            have h := (OwnV.lit (w0 := wO) (e := 23) (wO.alloc (.cells #[.slice B1 m1 d1] 23)) [] ((Grow.refl _).alloc _) (by simp)).kept ((Grow.refl _).drew)
            simpa using h
          have B2 : Blk ((wO.alloc (.cells #[] 23)).alloc (.cells #[.slice B1 m1 d1] 23)).drew (wO.heap.size + 1) 23 [.slice B1 m1 d1] := (Blk.new_at (xs := [.slice B1 m1 d1]) (by simp)).grow ((Grow.refl _).drew)
          have B3 : Blk ((wO.alloc (.cells #[.slice B1 m1 d1] 23)).alloc (.cells #[] 23)).drew wO.heap.size 23 [.slice B1 m1 d1] := (Blk.new_at (xs := [.slice B1 m1 d1]) rfl).grow (((Grow.refl _).alloc _).drew)
          have OO := hid (And.intro O1 (And.intro O2 (And.intro O3 (And.intro B2 B3))))
          have U1 := hid (And.intro u3 (And.intro u4 (And.intro u5 uone)))
          have ul : us.length ≤ 4 := by omega
          have N2 := hid n2
          have N3 := hid n3
          clear n2 n3 u3 u4 u5 p0 p1 p2 u2 O1 O2 O3 B2 B3 uone
          go_wp2
          go_region_held3 (fun W => Grow wO W ∧ W.cell? ⟨P1, 0, none⟩ = some (.slice A1 ws.length c1) ∧ W.cell? ⟨P1, 1, none⟩ = some (.slice B1 m1 d1))
            (exact KS.out _ (by first | assumption | exact (Grow.refl _).drew | exact (‹Grow wO _ ∧ _›).1.alloc _))
            (first
              | (refine step_append_row wO _ 23 _ 24 infoNat rfl (by decide) (by rfl) (.tmp 98) (.tmp 100) _ (by rfl) Try.underlying58 _ [] us (by rfl) OO.out.1 A1 ws.length c1 (by rfl) U1.out.1 (U1.out.2.1.grow (((Grow.refl _).alloc _).drew)) U1.out.2.2.2 (by simp; omega) (((Grow.refl _).alloc _).drew) ?_; intro v' w' ho' hgw' hgr')
              | (refine step_append_row wO _ 23 _ 24 infoNat rfl (by decide) (by rfl) (.tmp 98) (.tmp 100) _ (by rfl) Try.underlying58 _ [] us (by rfl) OO.out.2.1 A1 ws.length c1 (by rfl) U1.out.1 (U1.out.2.1.grow ((((Grow.refl _).alloc _).alloc _).drew)) U1.out.2.2.2 (by simp; omega) ((((Grow.refl _).alloc _).alloc _).drew) ?_; intro v' w' ho' hgw' hgr'; have hb' : Rd w' (some ⟨wO.heap.size + 1, 0, none⟩) [.slice B1 m1 d1] := Blk.rd ((keep_grown hgr' OO.out.2.2.2.1.lt (by simp [Value.ownBlock])).trans OO.out.2.2.2.1))
              | (refine step_append_row wO _ 23 _ 24 infoNat rfl (by decide) (by rfl) (.tmp 98) (.tmp 100) _ (by rfl) Try.underlying58 _ [] us (by rfl) OO.out.2.2.1 A1 ws.length c1 (by rfl) U1.out.1 (U1.out.2.1.grow ((((Grow.refl _).alloc _).alloc _).drew)) U1.out.2.2.2 (by simp; omega) ((((Grow.refl _).alloc _).alloc _).drew) ?_; intro v' w' ho' hgw' hgr'; have hb' : Rd w' (some ⟨wO.heap.size, 0, none⟩) [.slice B1 m1 d1] := Blk.rd ((keep_grown hgr' OO.out.2.2.2.2.lt (by simp [Value.ownBlock])).trans OO.out.2.2.2.2))
              | (refine step_append_val wO w' 23 _ (.slice B1 m1 d1) 24 infoNat rfl (by decide) rfl (by rfl) (.tmp 101) (.tmp 104) _ (by rfl) Try.underlying58 _ us (by rfl) ho' (by rfl) (by omega) hgw' ?_; intro v2 w2 ho2 hgw2 _)
              | (refine step_append_row wO w' 23 _ 24 infoNat rfl (by decide) (by rfl) (.tmp 101) (.tmp 104) _ (by rfl) Try.underlying58 _ us [.slice B1 m1 d1] (by rfl) ho' (some ⟨wO.heap.size + 1, 0, none⟩) 1 1 (by rfl) rfl hb' (fun u hu => by simp at hu; subst hu; rfl) (by simp; omega) hgw' ?_; intro v2 w2 ho2 hgw2 _)
              | (refine step_append_row wO w' 23 _ 24 infoNat rfl (by decide) (by rfl) (.tmp 101) (.tmp 104) _ (by rfl) Try.underlying58 _ us [.slice B1 m1 d1] (by rfl) ho' (some ⟨wO.heap.size, 0, none⟩) 1 1 (by rfl) rfl hb' (fun u hu => by simp at hu; subst hu; rfl) (by simp; omega) hgw' ?_; intro v2 w2 ho2 hgw2 _))
          all_goals
            have hl2 : (us ++ [Value.slice B1 m1 d1]).length = ws.length + 1 := by rw [List.length_append, U1.out.1]; rfl
            obtain ⟨A2, c2, rfl, cc1, cc2, rd2⟩ := ho2.open_
            have GOT : NatsV w2 (.slice A2 (us ++ [Value.slice B1 m1 d1]).length c2) (ws.length + 1) (fun i => if i < ws.length then raceF zs ws F D i else raceN zs ws D) := ⟨A2, c2, us ++ [Value.slice B1 m1 d1], by rw [hl2], by omega, cc2, hl2, rd2, fun i u hu => by
              rcases Nat.lt_or_ge i us.length with hi | hi
              · rw [List.getElem?_append_left hi] at hu
                have hi2 : i < ws.length := by have := U1.out.1; omega
                simp only [if_pos hi2]
                exact (U1.out.2.2.1 i u hu).grow hgw2
              · have hl := (List.getElem?_eq_some_iff.1 hu).1
                rw [List.getElem?_append_right hi] at hu
                obtain rfl : i = us.length := by rw [hl2] at hl; have := U1.out.1; omega
                have hu' : Value.slice B1 m1 d1 = u := by simpa using hu
                subst hu'
                have hi2 : ¬ us.length < ws.length := by have := U1.out.1; omega
                simp only [if_neg hi2]
                exact N2.out.grow hgw2⟩
            rw [hl2] at GOT
            have HGOT := hid GOT
            have BV2 := HBV.out.grow hgw2
            have q2 := hgw2.cell_some (Q.out _ hgO).2.2.1
            have n3 := N3.out.grow hgw2
            have FW := hid ((HG.out.trans HX.out).trans (hgO.trans hgw2))
            have HL2 := hid hl2
            clear GOT cc1 cc2 rd2 hgw2 ho2 hl2 hgr' hgw' ho'
            rw [HL2.out]
            go_wp2
            go_loopw [21] (fun i wr => ∃ (k m : Nat), k ≤ ws.length + 1 ∧ i = .int .i64 (k : Int) ∧ wr = w2.drewN m) (fun i _ => ws.length + 1 - (intOf i).toNat)
            case atStart => exact ⟨0, 0, Nat.zero_le _, rfl, rfl⟩
            case round =>
              obtain ⟨k, m, hk, rfl, rfl⟩ := hrel
              by_cases hlt : k ≤ ws.length
              · obtain ⟨ad, E, l, e, rfl, _, hx, ke⟩ := HGOT.out.at_ (show k < ws.length + 1 by omega)
                have hky : k < ys.length := by have := HYL.out; omega
                have hy := BV2.cell_int hky
                have gy : ys.getD k 0 = ys[k] := by simp [List.getD, hky]
                have hyo := HY.out k hlt
                have ho := OL.out.ord0 k
                rw [gy] at hyo
                rw [← hyo] at ho
                obtain ⟨x, hx1, hx2, hx3⟩ : ∃ x, x = (if k < ws.length then raceF zs ws F D k else raceN zs ws D) ∧ (0 ≤ x ∧ x ≤ 1000) ∧ x * FM = ys[k] * raceA zs ws := by
                  refine ⟨_, rfl, ?_⟩
                  rw [hyo, ← HFM.out]
                  by_cases hkl : k < ws.length
                  · rw [if_pos hkl]
                    exact ⟨OL.out.win0 k hkl, OL.out.win k hkl⟩
                  · obtain rfl : k = ws.length := by omega
                    rw [if_neg hkl]
                    exact ⟨OL.out.non0, OL.out.non⟩
                simp only [← hx1] at ke
                have hA := OL.out.all0
                have SS := hid (fun v a q (h : IsNat w2 v a) (ha : a < 1000000000) => Small_nat v a (w2.drewN (m + q)) (h.grow ((Grow.refl w2).drewN (m + q))) ha)
                have kx := ke.1
                have ka := n3.1
                have xb : x < 1000000000 := by omega
                have ab : raceA zs ws < 1000000000 := by omega
                have m0 : 0 ≤ x * FM := Int.mul_nonneg hx2.1 (by omega)
                have m1 : x * FM ≤ 1000 * 5040 := Int.mul_le_mul hx2.2 (by omega) (by omega) (by omega)
                have hne : (x * FM != ys[k] * raceA zs ws) = false := by rw [hx3]; simp
                rw [hx3] at m0 m1
                have w1 : IntKind.i64.wrap (ys[k] * raceA zs ws) = ys[k] * raceA zs ws := IntWalk.i64_in _ (by omega)
                rw [← hx3] at m0 m1
                have w3 : IntKind.i64.wrap (x * FM) = x * FM := IntWalk.i64_in _ (by omega)
                have i0 : (0 : Int) ≤ (k : Int) := by omega
                have i1 : (k : Int) < (ws.length : Int) + 1 := by omega
                have i2 : (k : Int) ≤ (ws.length : Int) := by omega
                generalize ys[k] = y at *
                generalize raceA zs ws = AA at *
                clear hx1 hx3 hyo gy ke ho hA hx2
                go_wp2
                go_quiet ((go_at_call 45; exact q_same' (SS.out _ _ _ (by assumption) (by assumption))))
                go_wp2
                exact ⟨⟨k + 1, _, by omega, by go_num, rfl⟩, by simp only [intOf]; omega⟩
              · have i2 : ¬ (k : Int) ≤ (ws.length : Int) := by omega
                go_wp2_with fail
                refine (awake_any _).mono ?_
                rintro e w15 ⟨rfl, g15⟩
                go_wp2
                go_ret
                exact ⟨rfl, FW.out.trans (((Grow.refl _).drewN _).trans g15)⟩
end Go.Proofs.Ytgphdaipgodjgaa
