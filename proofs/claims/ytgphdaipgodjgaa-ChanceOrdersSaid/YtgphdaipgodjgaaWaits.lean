/-
  Walks of WaitsOf, SameNats and the law's same.
-/
import Derived.Test.YtgphdaipgodjgaaRaceW
import Derived.Test.YtgphdaipgodjgaaRacing
namespace Go.Proofs.Ytgphdaipgodjgaa
open Go.RowKit

theorem infoInts : (Try.prog.info? 22).map (fun i => (i.zero, i.size, i.bytes)) = some (some (.slice none 0 0), 1, 24) := by kernel_rfl
theorem ints_far {w w' : World} {e' : TypeId} {v r : Value} {zs : List Int} {base size m : Nat} {xs : List Value} (h : IsIntsF w v zs) (ho : w.ownsRow base e' size r m xs) (hne : 3 ≠ e') (hg : w.grownBy w' r.ownBlock) : IsIntsF w' v zs := by
  obtain ⟨⟨A, c, rfl, h1, h2, h3⟩, ht⟩ := h
  exact ⟨⟨A, c, rfl, h1, h2, h3.far ht ho hne hg⟩, ht.far ho hne hg⟩
theorem OwnV.but {g : Nat} {w0 w w' : World} {e : TypeId} {v : Value} {vs : List Value} (h : OwnV w0 w e v vs) (k : But g w w') (hg : g < w0.heap.size) : OwnV w0 w' e v vs := by
  refine ⟨h.1, ?_⟩
  rcases h.2 with hn | ⟨g', cap, cur, e1, hb, hh, r⟩
  · exact .inl hn
  · exact .inr ⟨g', cap, cur, e1, hb, (k.block g' (lt_of_block hh) (fun e => by injection e with e; omega)).trans hh, r⟩
section
variable {ops : Array Oper} {rest : List Oper} {o : Oper} {a : Act} {Q : Exit → Act → World → Prop}
/-- 'append(out, l)', l a list of integers, where other blocks may have been written. -/
theorem wpList_append_rowS (w0 w : World) (u : Value) (hu : u.oneCell' = true) (hgd : o.guard = none) (s x : Operand) (t : TypeId)
    (ho : o.op = .call { callee := .builtin .append, args := #[s, x], argTypes := #[t, t] }) (ht : Try.prog.underlying t = some (.slice 22))
    (v : Value) (vs : List Value) (hs : a.eval s = v) (hown : OwnV w0 w 22 v vs) (hx : a.eval x = .slice (some ⟨w.heap.size, 0, none⟩) 1 1)
    (hl : vs.length ≤ 1000000) (hg : w0.heap.size ≤ w.heap.size)
    (h : ∀ v' w', OwnV w0 w' 22 v' (vs ++ [u]) → (w.alloc (.cells #[u] 22)).grownBy w' v.ownBlock → wpList Try.prog ops Q rest (a.put o.dst v') w') :
    wpList Try.prog ops Q (o :: rest) a (w.alloc (.cells #[u] 22)) := by
  obtain ⟨i0, hi0, hz0, hz1, hz2⟩ := info_parts infoInts
  refine wpList_append_own _ hgd s x t ho w0.heap.size 22 i0 _ 1 24 ht hi0 hz0 hz1 hz2 rfl (by decide) v vs.length vs hs (World.ownsRow.alloc hown _) ⟨w.heap.size, 0, none⟩ 1 1 [u] hx rfl
    (World.news_of_block (cs := #[u]) (t := 22) (fr := (0, 0)) (heap_alloc_new w _)) (by simp [hu]) (by unfold maxLen; omega) (by omega) (by simp; omega) ?_
  intro v' w' h1 h2 _
  refine h v' w' ?_ h2
  have e : (vs ++ [u]).length = vs.length + 1 := by simp
  unfold OwnV
  rw [e]
  exact h1
end
/-- The lists of some seats, so far. -/
def RowsTo (w : World) (vs : List Value) (ls : List (List Int)) : Prop := ∀ (i : Nat) (u : Value) (l : List Int), vs[i]? = some u → ls[i]? = some l → IsIntsF w u l
theorem RowsTo.grow {w w' : World} {vs : List Value} {ls : List (List Int)} (h : RowsTo w vs ls) (g : Grow w w') : RowsTo w' vs ls := fun i u l hu hl => (h i u l hu hl).grow g
theorem RowsTo.but {g : Nat} {w w' : World} {vs : List Value} {ls : List (List Int)} (h : RowsTo w vs ls) (k : But g w w') (hs : Src w g) : RowsTo w' vs ls := fun i u l hu hl => (h i u l hu hl).but k hs
theorem RowsTo.far {w w' : World} {e' : TypeId} {r : Value} {vs : List Value} {ls : List (List Int)} {base size m : Nat} {xs : List Value} (h : RowsTo w vs ls) (ho : w.ownsRow base e' size r m xs) (hne : 3 ≠ e') (hg : w.grownBy w' r.ownBlock) : RowsTo w' vs ls := fun i u l hu hl => ints_far (h i u l hu hl) ho hne hg
theorem RowsTo.snoc {w : World} {vs : List Value} {ls : List (List Int)} {u : Value} {l : List Int} (h : RowsTo w vs ls) (he : vs.length = ls.length) (hu : IsIntsF w u l) : RowsTo w (vs ++ [u]) (ls ++ [l]) := fun i x y hx hy => by
  rcases Nat.lt_or_ge i vs.length with hi | hi
  · rw [List.getElem?_append_left hi] at hx
    rw [List.getElem?_append_left (by omega)] at hy
    exact h i x y hx hy
  · have hl := (List.getElem?_eq_some_iff.1 hx).1
    simp at hl
    obtain rfl : i = vs.length := by omega
    rw [he] at hy
    simp at hx hy
    subst hx
    subst hy
    exact hu
/-- Lists of integers, each in a block of its own. -/
def IsRowsF (w : World) (v : Value) (ws : List (List Int)) : Prop := IsList IsIntsF w v ws ∧ Tag w 22 v
theorem IsRowsF.grow {w w' : World} {v : Value} {ws : List (List Int)} (h : IsRowsF w v ws) (g : Grow w w') : IsRowsF w' v ws := ⟨IsList.grow (R := IsIntsF) (fun _ _ _ _ h g => IsIntsF.grow h g) h.1 g, h.2.grow g⟩
theorem IsRowsF.but {g : Nat} {w w' : World} {v : Value} {ws : List (List Int)} (h : IsRowsF w v ws) (k : But g w w') (hs : Src w g) : IsRowsF w' v ws := by
  obtain ⟨⟨A, c, vs, rfl, h1, h2, h3, h4, h5⟩, ht⟩ := h
  exact ⟨⟨A, c, vs, rfl, h1, h2, h3, k.rd hs h4 ht (by decide), fun i u x hu hx => (h5 i u x hu hx).but k hs⟩, k.tag hs ht (by decide)⟩
theorem IsRowsF.is {w : World} {v : Value} {ws : List (List Int)} (h : IsRowsF w v ws) : IsRowsI w v ws := by
  obtain ⟨⟨A, c, vs, h0, h1, h2, h3, h4, h5⟩, _⟩ := h
  exact ⟨A, c, vs, h0, h1, h2, h3, h4, fun i u x hu hx => (h5 i u x hu hx).1⟩
def WaitsResF (g : Nat) (S K : Int) (w : World) (e : Ending) (w' : World) : Prop :=
  ∃ v ws, e = .returned v ∧ IsRowsF w' v ws ∧ (ws.length : Int) = S ∧ (∀ l ∈ ws, risErr K (-1) l = 0) ∧ Src w' g ∧ But g w w'
def WaitsRes (g : Nat) (S K : Int) (w : World) (e : Ending) (w' : World) : Prop :=
  ∃ v ws, e = .returned v ∧ IsRowsI w' v ws ∧ (ws.length : Int) = S ∧ (∀ l ∈ ws, risErr K (-1) l = 0) ∧ Src w' g ∧ But g w w'
theorem waits_fin {g : Nat} {S K : Int} {w wr : World} {v : Value} {vs : List Value} {ls : List (List Int)} (ho : OwnV w wr 22 v vs) (he : vs.length = ls.length) (hr : RowsTo wr vs ls) (hl : (ls.length : Int) = S) (hk : ∀ l ∈ ls, risErr K (-1) l = 0) (hs : Src wr g) (hb : But g w wr) : WaitsResF g S K w (.returned v) wr :=
  ⟨v, ls, rfl, ⟨ho.is he fun i u x hu hx => hr i u x hu hx, Tag.of_own ho⟩, hl, hk, hs, hb⟩

set_option maxRecDepth 100000 in
theorem WaitsOf_anyF (g S K : Nat) (w : World) (hs : Src w g) (s1 : S ≤ 1000) (k1 : K ≤ 1000) : Calls Try.prog 40 #[.pointer (some ⟨g, 0, none⟩), .int .i64 (S : Int), .int .i64 (K : Int)] w (WaitsResF g S K w) := by
  have gl := hs.lt
  go_enter Try.func40, Try.ntmps40
  go_wp2
  go_loopw [7, 8] (fun v i wr => ∃ (k : Nat) (vs : List Value) (ls : List (List Int)) (u : Value), u = v ∧ k ≤ S ∧ i = .int .i64 (k : Int) ∧ vs.length = ls.length ∧ ls.length = k ∧ OwnV w wr 22 v vs ∧ RowsTo wr vs ls ∧ (∀ l ∈ ls, risErr K (-1) l = 0) ∧ Src wr g ∧ But g w wr) (fun _ i _ => S - (intOf i).toNat)
  case atStart => exact ⟨0, [], [], _, rfl, Nat.zero_le _, rfl, rfl, rfl, OwnV.nil, fun i u l h => by simp at h, by simp, hs, But.refl _ _⟩
  case round =>
    obtain ⟨k, vs, ls, v, rfl, hk, rfl, hvl, hll, ho, hr, hris, hs1, hb1⟩ := hrel
    have HL := hid (And.intro hvl hll)
    have HRI := hid hris
    by_cases hlt : k < S
    · have i1 : (k : Int) < (S : Int) := by omega
      have hvk : vs.length ≤ 1000 := by omega
      clear hris hvl hll
      go_wp2_with fail
      refine (Range_any g 2 5 _ hs1 (by omega) (by omega) (by omega)).mono ?_
      rintro e w2 ⟨r, rfl, r0, r1, hs2, hb2⟩
      have ho2 := ho.but hb2 gl
      have hr2 := hr.but hb2 hs1
      have hB2 := hb1.trans hb2
      clear ho hr hb1 hb2 hs1
      go_wp2_with fail
      refine (PlacesOf_any g K r _ hs2 k1 (by omega)).mono ?_
      rintro e w3 ⟨x, ks, rfl, kP, hks, hs3, hb3⟩
      obtain ⟨A1, m1, c1, rfl⟩ := ints_open kP.1
      have ho3 := ho2.but hb3 gl
      have hr3 := hr2.but hb3 hs2
      have hB3 := hB2.trans hb3
      have hsz := hB3.size
      have own := ho3.block
      have OW := hid own
      have gA : Grow w3 (w3.alloc (.cells #[.slice A1 m1 c1] 22)) := (Grow.refl _).alloc _
      have HKS := hid hks
      clear ho2 hr2 hB2 hb3 hs2 own hks
      go_wp2_with (at_builtin; refine wpList_append_rowS w w3 (.slice A1 m1 c1) rfl rfl (.tmp 14) (.tmp 20) _ (by rfl) Try.underlying45 _ vs (by rfl) ho3 (by rfl) (by omega) hsz ?_; intro v' w' ho5 hg5)
      have hoA := ho3.kept gA
      have hr5 := (hr3.grow gA).far hoA (by decide) hg5
      have hu5 := ints_far (kP.grow gA) hoA (by decide) hg5
      refine ⟨⟨k + 1, vs ++ [.slice A1 m1 c1], ls ++ [ks], _, rfl, by omega, by go_num, by simp [HL.out.1], by simp [HL.out.2], ho5, hr5.snoc HL.out.1 hu5, fun l hl => ?_, (hs3.grow gA).own hg5 (fun e => by have := OW.out g e; omega), (hB3.trans (But.of_grow gA)).own hg5 OW.out⟩, by simp only [intOf]; omega⟩
      rcases List.mem_append.1 hl with h | h
      · exact HRI.out l h
      · simp at h; subst h; exact HKS.out
    · have FIN := hid (waits_fin ho hvl hr (show (ls.length : Int) = S by omega) hris hs1 hb1)
      clear hris hvl hll
      go_wp2
      go_ret
      exact FIN.out
theorem WaitsOf_any (g S K : Nat) (w : World) (hs : Src w g) (s1 : S ≤ 1000) (k1 : K ≤ 1000) : Calls Try.prog 40 #[.pointer (some ⟨g, 0, none⟩), .int .i64 (S : Int), .int .i64 (K : Int)] w (WaitsRes g S K w):=
  (WaitsOf_anyF g S K w hs s1 k1).mono fun _ _ ⟨v, ws, h1, h2, h3⟩ => ⟨v, ws, h1, h2.is, h3⟩

/-- A slice of so many naturals. -/
def NatsV (w : World) (v : Value) (n : Nat) (f : Nat → Int) : Prop := ∃ (A : Option Addr) (c : Nat) (vs : List Value), v = .slice A n c ∧ n ≤ c ∧ c ≤ maxLen ∧ vs.length = n ∧ Rd w A vs ∧ NatsAt w vs f
theorem NatsV.grow {w w' : World} {v : Value} {n : Nat} {f : Nat → Int} (h : NatsV w v n f) (g : Grow w w') : NatsV w' v n f := by
  obtain ⟨A, c, vs, h1, h2, h3, h4, h5, h6⟩ := h
  exact ⟨A, c, vs, h1, h2, h3, h4, h5.grow g, h6.grow g⟩
theorem NatsV.at_ {w : World} {A : Option Addr} {m c : Nat} {n : Nat} {f : Nat → Int} (h : NatsV w (.slice A m c) n f) {k : Nat} (hk : k < n) : ∃ ad B l d, A = some ad ∧ ad.block < w.heap.size ∧ w.cell? (ad.add k) = some (.slice B l d) ∧ IsNatF w (.slice B l d) (f k) := by
  obtain ⟨A', c', vs, e, h1, h2, h3, h4, h5⟩ := h
  injection e with e1 e2 e3
  subst e1
  obtain ⟨ad, hA, hb, hc⟩ := h4.val (show k < vs.length by omega)
  have hi := h5 k vs[k] (List.getElem?_eq_getElem (by omega))
  obtain ⟨B, l, d, e⟩ := hi.open_
  rw [e] at hc hi
  exact ⟨ad, B, l, d, hA, hb, hc, hi⟩

set_option maxRecDepth 100000 in
theorem SameNats_same (v1 v2 : Value) (n : Nat) (f : Nat → Int) (w : World) (h1 : NatsV w v1 n f) (h2 : NatsV w v2 n f) : Calls Try.prog 78 #[v1, v2] w (Says w (.bool true)) := by
  have H1 := hid h1
  have H2 := hid h2
  obtain ⟨A, c, _, rfl, c1, c2, _⟩ := h1
  obtain ⟨B, d, _, rfl, d1, d2, _⟩ := h2
  unfold maxLen at c2 d2
  go_enter Try.func78, Try.ntmps78
  go_wp2
  go_loopw [5] (fun i wr => ∃ (k m : Nat), k ≤ n ∧ i = .int .i64 (k : Int) ∧ wr = w.drewN m) (fun i _ => n - (intOf i).toNat)
  case atStart => exact ⟨0, 0, Nat.zero_le _, rfl, rfl⟩
  case round =>
    obtain ⟨k, m, hk, rfl, rfl⟩ := hrel
    by_cases hlt : k < n
    · obtain ⟨ad, E, l, e, rfl, _, hx, ke⟩ := H1.out.at_ hlt
      obtain ⟨ad2, F, l2, e2, rfl, _, hy, kf⟩ := H2.out.at_ hlt
      have i0 : (0 : Int) ≤ (k : Int) := by omega
      have i1 : (k : Int) < (n : Int) := by omega
      have SN := hid (fun q => SameNat_same (.slice E l e) (.slice F l2 e2) (f k) (w.drewN (m + q)) ((ke.grow ((Grow.refl w).drewN (m + q))).1) ((kf.grow ((Grow.refl w).drewN (m + q))).1))
      clear ke kf
      go_wp2
      go_quiet ((go_at_call 20; exact q_says' (SN.out _)))
      go_wp2
      exact ⟨⟨k + 1, _, by omega, by go_num, rfl⟩, by simp only [intOf]; omega⟩
    · go_wp2
      go_ret
      exact ⟨rfl, _, rfl⟩

theorem IsRace.open_ {w : World} {v : Value} {n : Nat} {f : Nat → Int} {nn aa : Int} (h : IsRace w v n f nn aa) : ∃ A c B m d C k e, v = .agg #[.slice A n c, .slice B m d, .slice C k e] ∧ NatsV w (.slice A n c) n f ∧ IsNatF w (.slice B m d) nn ∧ IsNatF w (.slice C k e) aa := by
  obtain ⟨A, c, vs, v2, v3, rfl, h2, h3, h4, h5, h6, h7, h8, h9⟩ := h
  obtain ⟨B, m, d, rfl⟩ := h8.open_
  obtain ⟨C, k, e, rfl⟩ := h9.open_
  exact ⟨A, c, B, m, d, C, k, e, rfl, ⟨A, c, vs, rfl, h2, h3, h4, h5, h7⟩, h8, h9⟩

set_option maxRecDepth 100000 in
theorem same_race (v1 v2 : Value) (n : Nat) (f : Nat → Int) (nn aa : Int) (w : World) (h1 : IsRace w v1 n f nn aa) (h2 : IsRace w v2 n f nn aa) : Calls Try.prog 43 #[v1, v2] w (Gives w (.bool true)) := by
  obtain ⟨A1, c1, B1, m1, d1, C1, k1, e1, rfl, n1, b1, a1⟩ := h1.open_
  obtain ⟨A2, c2, B2, m2, d2, C2, k2, e2, rfl, n2, b2, a2⟩ := h2.open_
  have g0 : Grow w ((w.alloc (.cells #[.slice A1 n c1, .slice B1 m1 d1, .slice C1 k1 e1] 60)).alloc (.cells #[.slice A2 n c2, .slice B2 m2 d2, .slice C2 k2 e2] 60)) := ((Grow.refl _).alloc _).alloc _
  have S1 := hid (fun W (hg : Grow w W) => SameNats_same _ _ n f W (n1.grow hg) (n2.grow hg))
  have S2 := hid (fun W (hg : Grow w W) => SameNat_same _ _ nn W (b1.grow hg).1 (b2.grow hg).1)
  have S3 := hid (fun W (hg : Grow w W) => SameNat_same _ _ aa W (a1.grow hg).1 (a2.grow hg).1)
  clear n1 b1 a1 n2 b2 a2 h1 h2
  go_enter Try.func43, Try.ntmps43
  go_wp2_with fail
  refine (S1.out _ g0).mono ?_
  rintro e w1 ⟨rfl, x1, rfl⟩
  have g1 := g0.drewN x1
  go_wp2_with fail
  refine (S2.out _ g1).mono ?_
  rintro e w1 ⟨rfl, x2, rfl⟩
  have g2 := g0.drewN (x1 + x2)
  go_wp2_with fail
  refine (S3.out _ g2).mono ?_
  rintro e w1 ⟨rfl, x3, rfl⟩
  go_wp2
  go_ret
  exact ⟨rfl, g0.drewN _⟩
end Go.Proofs.Ytgphdaipgodjgaa
