/-
  The table of powers of ten, out of a row's list of laid variables.
-/
import Derived.Test.YtomgilkchlediaaGreatDoorTextZ
import Derived.Test.YtomgilkchlediaaGreatDoorRows
import Derived.Lib.LaidU8
namespace Go.Proofs.YtomgilkchlediaaGreatDoor
open Go.RowKit Go.Lib
theorem pow_of_laid {W : World} {l : List (String × DataW Unit)} (h : laidMet Tryz.prog l W) (hm : ("internal/strconv.uint64pow10", Rows.laid_internal_strconv_uint64pow10) ∈ l) : Pow10 W := by
  obtain ⟨g, t, cs, fuel, p, hg, ht, hv, hd⟩ := laidMet.reads h hm
  obtain rfl := Option.some.inj (gPow10.symm.trans hg)
  obtain rfl := Option.some.inj ((show (Tryz.prog.globals[2]?).map (·.type) = some 140 by kernel_rfl).symm.trans ht)
  have e : (Rows.laid_internal_strconv_uint64pow10 : DataW Unit) = tabData .u64 pow10Tab := by kernel_rfl
  rw [e] at hd
  have := cells_of_tab (n := 20) (e := 53) Tryz.underlying140 Tryz.underlying53 (by kernel_rfl) (by kernel_rfl) hd
  unfold Pow10 TabIs
  rw [hv, ← this]
end Go.Proofs.YtomgilkchlediaaGreatDoor
