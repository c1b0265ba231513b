/-
  The walk of groups.
-/
import Derived.Test.YtjiahcfegfimmaaKnown33
import Derived.BigQuiet
import Derived.Outline
namespace Go.Proofs.Ytjiahcfegfimmaa
open Go.RowKit

/-- The value reads as these groups. -/
def IsGrps (w : World) (v : Value) (gs : List Grp) : Prop := ∃ A c us, v = .slice A gs.length c ∧ gs.length ≤ c ∧ c ≤ maxLen ∧ us.length = gs.length ∧ Rd w A (grpCells gs us) ∧ ∀ (i : Nat) (u : Value) (g : Grp), us[i]? = some u → gs[i]? = some g → IsInts w u g.2
theorem IsGrps.grow {w w' : World} {v : Value} {gs : List Grp} (h : IsGrps w v gs) (g : Grow w w') : IsGrps w' v gs := by
  obtain ⟨A, c, us, e, h1, h2, h3, h4, h5⟩ := h
  exact ⟨A, c, us, e, h1, h2, h3, h4.grow g, fun i u x hu hx => (h5 i u x hu hx).grow g⟩
def grpV (l : List Int) : List Grp := match grpF [] [] l with
  | none => []
  | some (gs, _) => gs
def grpB (l : List Int) : Bool := match grpF [] [] l with
  | none => false
  | some (_, cur) => decide (cur = [])
/-- What groups hands back. -/
def GrpRes (w : World) (l : List Int) (e : Ending) (w' : World) : Prop := ∃ v, e = .returned (.tuple #[v, .bool (grpB l)]) ∧ IsGrps w' v (grpV l) ∧ Grow w w'
theorem IsGrps.nil {w : World} : IsGrps w (.slice none 0 0) [] := ⟨none, 0, [], rfl, Nat.le_refl _, Nat.zero_le _, rfl, Rd.nil, fun i u g h => by simp at h⟩
theorem str_size (l : List Int) : (strOfNums l).size = l.length := by
  have := congrArg List.length (strOfNums_data l)
  simpa using this
theorem str_at {l : List Int} {k : Nat} (hk : k < l.length) (hb : ∀ z ∈ l, 0 ≤ z ∧ z < 128) (hs : k < (strOfNums l).size) : (((strOfNums l)[k]'hs).toNat : Int) = l[k] ∧ ((strOfNums l)[k]'hs).toNat < 128 := by
  have h := hb _ (List.getElem_mem hk)
  have e : (strOfNums l)[k]'hs = UInt8.ofNat (l[k]).toNat := by
    have h2 : (strOfNums l).data.toList[k]? = some (UInt8.ofNat (l[k]).toNat) := by rw [strOfNums_data]; simp [hk]
    have h3 : (strOfNums l).data.toList[k]? = some ((strOfNums l)[k]'hs) := by
      rw [List.getElem?_eq_getElem (by simpa using hs)]; rfl
    rw [h3] at h2
    injection h2
  rw [e]
  have : (UInt8.ofNat (l[k]).toNat).toNat = (l[k]).toNat := by
    rw [UInt8.toNat_ofNat']; omega
  rw [this]
  omega
/-- An append whose run is known. -/
theorem wpList_append_eq {P : Program} {ops : Array Oper} {rest : List Oper} {o : Oper} {a : Act} {w : World} {Q : Exit → Act → World → Prop} {t ty : TypeId} {u y v' : Value} {w0 w' : World}
    (hrun : (Builtin.append_ #[t, t] ty #[u, y]).run P w0 = .ok v' w') (s x : Operand)
    (hg : o.guard = none) (hop : o.op = Op.call { callee := Callee.builtin Builtin.append, args := #[s, x], argTypes := #[t, t] }) (hty : o.type = ty) (hs : a.eval s = u) (hx : a.eval x = y) (hw : w = w0)
    (h : wpList P ops Q rest (a.put o.dst v') w') : wpList P ops Q (o :: rest) a w := by
  subst hw hty
  refine wpList_plain hg fun K hK => ?_
  unfold Oper.wp
  simp [execOp, hop, resolve, invoke, builtin, hs, hx, hrun, Result.andThen]
  exact hK _ _ h

set_option maxRecDepth 100000 in
set_option maxHeartbeats 40000000 in
theorem groups_any (l : List Int) (w : World) (hb : ∀ z ∈ l, 0 ≤ z ∧ z < 128) (hl : l.length ≤ 1000000) : Calls Try.prog 100 #[.string (strOfNums l)] w (GrpRes w l) := by
  have hbad : ∀ wf, grpF [] [] l = none → Grow w wf → GrpRes w l (.returned (.tuple #[.slice none 0 0, .bool false])) wf := fun wf h hg => ⟨_, by unfold grpB; rw [h], by unfold grpV; rw [h]; exact IsGrps.nil, hg⟩
  have BAD := hid hbad
  have HB := hid hb
  clear hbad hb
  obtain ⟨S, hS⟩ : ∃ S, S = strOfNums l := ⟨_, rfl⟩
  rw [← hS]
  have HS := hid hS
  clear hS
  go_enter Try.func100, Try.ntmps100
  go_wp2
  obtain ⟨W0, hW0⟩ : ∃ W0, W0 = (w.alloc (.cells #[.int .i32 0, .slice none 0 0] 112)).iter S 0 := ⟨_, rfl⟩
  have st0 : GrpSt w ((w.alloc (.cells #[.int .i32 0, .slice none 0 0] 112)).iter S 0) w.heap.size (w.heap.size + 1) S l 0 (.slice none 0 0) (.slice none 0 0) [] [] [] := by
    have g1 : Grow (w.alloc (.cells #[.int .i32 0, .slice none 0 0] 112)) ((w.alloc (.cells #[.int .i32 0, .slice none 0 0] 112)).iter S 0) := (Grow.refl _).alloc _
    have hit := World.iter_heap (w.alloc (.cells #[.int .i32 0, .slice none 0 0] 112)) S 0
    rw [show (w.alloc (.cells #[.int .i32 0, .slice none 0 0] 112)).heap.size = w.heap.size + 1 by simp] at hit
    exact ⟨hit, g1.blk_some (heap_alloc_new w _), Own.nil _ _, World.ownsRow_nil _ _ _ _, by simp [Value.ownBlock], rfl, fun i u g h => by simp at h, fun u hu => by simp at hu, Nat.le_refl _, by omega, ((Grow.refl w).alloc _).trans g1, by simp, by simp, by simp⟩
  have ST0 := hid st0
  clear st0 hW0
  go_loopw [4, 7, 13, 28] (fun o _ _ _ wr => ∃ (pos : Nat) (gs : List Grp) (us : List Value) (cur : List Int) (vc : Value), pos ≤ l.length ∧ GrpSt w wr w.heap.size (w.heap.size + 1) S l pos o vc gs us cur) (fun _ _ _ _ wr => l.length - wr.iterPos (w.heap.size + 1))
  case atStart => exact ⟨0, [], [], [], _, Nat.zero_le _, ST0.out⟩
  case round =>
    obtain ⟨pos, gs, us, cur, vc, hpos, hst⟩ := hrel
    have HST := hid hst
    have HIT := hid hst.it
    obtain ⟨Ac, cc, rfl, hcc, hcm, _⟩ := id hst.own.is
    obtain ⟨Ao, co, rfl, hoc, hom, hord⟩ := hst.out.open_
    have hcl := hst.cl
    have hgl := hst.gl
    have hord2 := hid (hord hst.ulen)
    have hblk := hid hst.blk
    unfold maxLen at hcm hom
    clear hst hord
    by_cases hlt : pos < l.length
    · have hs : pos < S.size := by rw [HS.out, str_size]; exact hlt
      have hat : ((S[pos]'hs).toNat : Int) = l[pos] ∧ (S[pos]'hs).toNat < 128 := by
        have := HS.out
        subst this
        exact str_at hlt HB.out hs
      have hnext : ∀ ty, (Instr.next (.pointer (some ⟨w.heap.size + 1, 0, none⟩)) true ty).run Try.prog wr = _ := fun ty => Lib.run_next_ascii_at wr (w.heap.size + 1) S pos ty HIT.out hs hat.2
      rw [hat.1] at hnext
      have hc0 := HB.out _ (List.getElem_mem hlt)
      have hmu : wr.iterPos (w.heap.size + 1) = pos := by simp [World.iterPos, HIT.out]
      have HMU := hid hmu
      obtain ⟨c, hc⟩ : ∃ c, l[pos] = c := ⟨_, rfl⟩
      rw [hc] at hnext hc0
      have HC := hid hc
      clear hmu hat hc
      by_cases hd : 49 ≤ c ∧ c ≤ 57
      · obtain ⟨v', w3, hr, hst', ⟨u0, hu0⟩, hf0⟩ := HST.out.digit_out hlt HC.out hd hl 22 22 Try.underlying22
        obtain ⟨A9, m9, c9, rfl⟩ : ∃ A m c, v' = .slice A m c := by obtain ⟨A, c, e, _⟩ := hst'.own.is; exact ⟨A, _, c, e⟩
        have hz1 := Lib.iterAt_size wr (w.heap.size + 1) S (pos + 1)
        have htl := HST.out.tlt
        have b1 : Blk (wr.iterAt (w.heap.size + 1) S (pos + 1)) w.heap.size 112 _ := (Lib.iterAt_other wr (w.heap.size + 1) w.heap.size S (pos + 1) (by omega)).trans hblk.out
        have q1 := b1.cell 1
        have HR := hid hr
        have HN := hid hst'
        have HZ := hid (And.intro hz1 (And.intro htl b1))
        clear hr hst' hz1 htl b1
        generalize wr.iterAt (w.heap.size + 1) S (pos + 1) = W1 at *
        have q1 : W1.cell? ⟨w.heap.size, 1, none⟩ = some (.slice Ac cur.length cc) := q1
        have d1 : 49 ≤ c := hd.1
        have d2 : c ≤ 57 := hd.2
        have hzz := HZ.out.1
        have w1 : IntKind.i32.wrap (c - 49) = c - 49 := by unfold IntKind.wrap; simp [IntKind.bits, IntKind.signed]; omega
        go_wp2_with (at_builtin; refine wpList_append_eq HR.out (.tmp 21) (.tmp 25) ?_ ?_ ?_ ?_ ?_ ?_ ?_; exact rfl; exact rfl; exact rfl; exact rfl; exact rfl; exact rfl)
        clear w1 hzz
        exact ⟨⟨pos + 1, gs, us, _, _, by omega, HN.out⟩, by rw [HMU.out, show World.iterPos _ (w.heap.size + 1) = pos + 1 by simp [World.iterPos, HN.out.it]]; omega⟩
      · have LO := hid (fun hs hno W2 hg2 => HST.out.letter_out (c := c) hlt HC.out hd hs hno hl (W2 := W2) hg2 107 107 Try.underlying107)
        have BD := hid (show (suitN c = -4 ∨ cur = [] ∨ lastB gs c = true) → grpF [] [] l = none from fun hx => by
          rw [← HST.out.run, List.drop_eq_getElem_cons hlt, HC.out, grpF, if_neg hd]
          by_cases h1 : suitN c = -4
          · rw [if_pos h1]
          · rw [if_neg h1, if_pos (by rcases hx with h | h; exact absurd h h1; exact h)])
        have hz1 := Lib.iterAt_size wr (w.heap.size + 1) S (pos + 1)
        have htl := HST.out.tlt
        have b1 : Blk (wr.iterAt (w.heap.size + 1) S (pos + 1)) w.heap.size 112 _ := (Lib.iterAt_other wr (w.heap.size + 1) w.heap.size S (pos + 1) (by omega)).trans hblk.out
        have g1 : Grow w (wr.iterAt (w.heap.size + 1) S (pos + 1)) := Lib.below_iterAt HST.out.gr (by omega) S (pos + 1)
        have rd1 : Rd (wr.iterAt (w.heap.size + 1) S (pos + 1)) Ao (grpCells gs us) := fun i u hu => by
          obtain ⟨ad, e, hlt, hcell⟩ := hord2.out i u hu
          refine ⟨ad, e, by rw [hz1]; exact hlt, ?_⟩
          have hne := (HST.out.outI (k := ad.block) (by rw [e]; subst e; exact own_block_of HST.out.out)).2
          rw [World.cell?_of_block (w := wr) (by rw [block_add]; exact Lib.iterAt_other wr (w.heap.size + 1) ad.block S (pos + 1) hne)]
          exact hcell
        have RD := hid rd1
        have B1 := hid b1
        have G1 := hid g1
        clear hz1 htl b1 g1 rd1
        generalize wr.iterAt (w.heap.size + 1) S (pos + 1) = W1 at *
        have SU := hid (suitOf_any c)
        have hsb := suitN_bound c
        rcases (show c < 49 ∨ (49 ≤ c ∧ 57 < c) by omega) with dA | ⟨dA, dB⟩
        all_goals
          clear hd
          by_cases h4 : suitN c = -4
          · have SU4 := hid (fun W => by have h := SU.out W; rw [h4] at h; exact h)
            have H4 := hid h4
            clear h4 hsb
            go_wp2_with fail
            refine (SU4.out _).mono ?_
            rintro e w2 ⟨rfl, hg2⟩
            go_wp2
            refine bodyPost_ret (v := .tuple #[.slice none 0 0, .bool false]) (by simp [results, Try.results100, go_sem]) rfl ?_
            exact BAD.out _ (BD.out (.inl H4.out)) (G1.out.trans hg2)
          · obtain ⟨su, hsu⟩ : ∃ su, su = suitN c := ⟨_, rfl⟩
            have SU5 := hid (fun W => by have h := SU.out W; rw [← hsu] at h; exact h)
            have hs4 : -4 < su := by omega
            have hs2 : su ≤ 2 := by omega
            clear hsb hsu
            go_wp2_with fail
            refine (SU5.out _).mono ?_
            rintro e w2 ⟨rfl, hg2⟩
            have b2 := B1.out.grow hg2
            have q0 : w2.cell? ⟨w.heap.size, 0, none⟩ = some (.int .i32 0) := b2.cell 0
            have q1 : w2.cell? ⟨w.heap.size, 1, none⟩ = some (.slice Ac cur.length cc) := b2.cell 1
            have z0 := b2.free 0
            have rd2 := RD.out.grow hg2
            clear b2
            by_cases hcur : cur = []
            · have HC0 := hid hcur
              have fl : ((cur.length : Int) == 0) = true := by simp [hcur]
              clear hcur rd2
              generalize cur.length = cl at *
              go_wp2
              refine bodyPost_ret (v := .tuple #[.slice none 0 0, .bool false]) (by simp [results, Try.results100, go_sem]) rfl ?_
              exact BAD.out _ (BD.out (.inr (.inl HC0.out))) (G1.out.trans hg2)
            · have fl : ((cur.length : Int) == 0) = false := by simp [hcur]
              have HCN := hid hcur
              have hc1 : 1 ≤ cur.length := by
                cases cur with
                | nil => exact absurd rfl hcur
                | cons _ _ => simp
              clear hcur
              by_cases hgs : 0 < gs.length
              · obtain ⟨k, hk⟩ : ∃ k, gs.length = k + 1 := ⟨gs.length - 1, by omega⟩
                have hkl : k < gs.length := by omega
                obtain ⟨ad, rfl, -, t1⟩ := rd2 _ _ (grpCells_let HST.out.ulen hkl)
                have hlast : lastB gs c = decide (gs[k].1 = c) := by
                  unfold lastB
                  rw [List.getLast?_eq_getElem?, show gs.length - 1 = k by omega, List.getElem?_eq_getElem hkl]
                have HLB := hid hlast
                have j0 : (0 : Int) < (gs.length : Int) := by omega
                have j1 : (gs.length : Int) - 1 = (k : Int) := by omega
                have j2 : (0 : Int) ≤ (k : Int) := by omega
                have j3 : (k : Int) < (gs.length : Int) := by omega
                clear hk rd2 hlast
                by_cases he : gs[k].1 = c
                · have fe : (gs[k].1 == c) = true := by simp [he]
                  have HLT := hid (show lastB gs c = true by rw [HLB.out]; simp [he])
                  clear he HLB
                  generalize gs[k].1 = x at *
                  go_wp2
                  refine bodyPost_ret (v := .tuple #[.slice none 0 0, .bool false]) (by simp [results, Try.results100, go_sem]) rfl ?_
                  exact BAD.out _ (BD.out (.inr (.inr HLT.out))) (G1.out.trans hg2)
                · have fe : (gs[k].1 == c) = false := by simp [he]
                  have HNO := hid (show ¬ (cur = [] ∨ lastB gs c = true) from fun h => by
                    rcases h with h | h
                    · exact HCN.out h
                    · rw [HLB.out] at h; exact he (of_decide_eq_true h))
                  clear he HLB
                  generalize gs[k].1 = x at *
                  obtain ⟨v', w4, hr, hst', e0, e1, f0, f1⟩ := LO.out h4 HNO.out w2 hg2
                  obtain ⟨A9, m9, c9, rfl⟩ : ∃ A m c, v' = .slice A m c := by obtain ⟨A, c, e, _⟩ := hst'.out.open_; exact ⟨A, _, c, e⟩
                  have HR := hid hr
                  have HN := hid hst'
                  clear hr hst'
                  go_wp2_with (at_builtin; refine wpList_append_eq HR.out (.tmp 54) (.tmp 56) ?_ ?_ ?_ ?_ ?_ ?_ ?_; exact rfl; exact rfl; exact rfl; exact rfl; exact rfl; exact rfl)
                  exact ⟨⟨pos + 1, _, _, _, _, by omega, HN.out⟩, by rw [HMU.out, show World.iterPos _ (w.heap.size + 1) = pos + 1 by simp [World.iterPos, HN.out.it]]; omega⟩
              · have HNO := hid (show ¬ (cur = [] ∨ lastB gs c = true) from fun h => by
                  rcases h with h | h
                  · exact HCN.out h
                  · have h0 : gs = [] := List.eq_nil_of_length_eq_zero (by omega)
                    rw [h0] at h
                    simp [lastB] at h)
                have j0 : decide ((0 : Int) < (gs.length : Int)) = false := decide_eq_false (by omega)
                clear rd2
                obtain ⟨v', w4, hr, hst', e0, e1, f0, f1⟩ := LO.out h4 HNO.out w2 hg2
                obtain ⟨A9, m9, c9, rfl⟩ : ∃ A m c, v' = .slice A m c := by obtain ⟨A, c, e, _⟩ := hst'.out.open_; exact ⟨A, _, c, e⟩
                have HR := hid hr
                have HN := hid hst'
                clear hr hst'
                go_wp2_with (at_builtin; refine wpList_append_eq HR.out (.tmp 54) (.tmp 56) ?_ ?_ ?_ ?_ ?_ ?_ ?_; exact rfl; exact rfl; exact rfl; exact rfl; exact rfl; exact rfl)
                exact ⟨⟨pos + 1, _, _, _, _, by omega, HN.out⟩, by rw [HMU.out, show World.iterPos _ (w.heap.size + 1) = pos + 1 by simp [World.iterPos, HN.out.it]]; omega⟩
    · have hs : ¬ pos < S.size := by rw [HS.out, str_size]; exact hlt
      have hnext : ∀ ty, (Instr.next (.pointer (some ⟨w.heap.size + 1, 0, none⟩)) true ty).run Try.prog wr = _ := fun ty => Lib.run_next_end_at wr (w.heap.size + 1) S pos ty HIT.out hs
      have hrun : grpF [] [] l = some (gs, cur) := by
        rw [← HST.out.run, List.drop_eq_nil_of_le (by omega), grpF]
      have FIN := hid (show ∀ b n, decide (cur = []) = b → GrpRes w l (.returned (.tuple #[.slice Ao gs.length co, .bool b])) (wr.drewN n) from fun b n hb => by
        subst hb
        exact ⟨.slice Ao gs.length co, by unfold grpB; rw [hrun], by
          unfold grpV
          rw [hrun]
          exact ⟨Ao, co, us, rfl, hoc, by unfold maxLen; exact hom, HST.out.ulen, hord2.out.drewN n, fun i u g hu hg => (HST.out.done i u g hu hg).1.is.drewN n⟩, HST.out.gr.drewN n⟩)
      have q1 : wr.cell? ⟨w.heap.size, 1, none⟩ = some (.slice Ac cur.length cc) := hblk.out.cell 1
      clear hrun
      by_cases hcur : cur = []
      · have HC0 := hid (show decide (cur = []) = true by simp [hcur])
        have fl : ((cur.length : Int) == 0) = true := by simp [hcur]
        clear hcur
        generalize cur.length = cl at *
        go_wp2
        go_quiet (fail)
        go_wp2
        refine bodyPost_ret (v := .tuple #[.slice Ao gs.length co, .bool true]) (by simp [results, Try.results100, go_sem]) rfl ?_
        exact FIN.out _ _ HC0.out
      · have HC0 := hid (show decide (cur = []) = false by simp [hcur])
        have fl : ((cur.length : Int) == 0) = false := by simp [hcur]
        clear hcur
        generalize cur.length = cl at *
        go_wp2
        go_quiet (fail)
        go_wp2
        refine bodyPost_ret (v := .tuple #[.slice Ao gs.length co, .bool false]) (by simp [results, Try.results100, go_sem]) rfl ?_
        exact FIN.out _ _ HC0.out
end Go.Proofs.Ytjiahcfegfimmaa
