/-
  A region that draws its order, whose operations only read and whose callees leave what was there as it was: one walk.
-/
import Derived.Test.YtjiahcfegfimmaaNotes09
import Derived.Lib.QuietBelow
import Derived.BigQuiet
namespace Go.Proofs.Ytjiahcfegfimmaa
open Go.RowKit Go.Sort

theorem grow_rg (w : World) (p : Regrown) : Grow w (grow (redrawn w p.d) p.os) := below_regrown w p.d p.os
theorem q_gives {P : Program} {f : FuncId} {args : Array Value} {w : World} {p : Regrown} {v : Value} (h : Calls P f args (grow (redrawn w p.d) p.os) (Gives (grow (redrawn w p.d) p.os) v)) :
    Calls P f args (grow (redrawn w p.d) p.os) fun e w'' => e = .returned v ∧ ∃ q : Regrown, w'' = grow (redrawn w q.d) q.os :=
  Calls.regrown_of (h.mono fun _ _ ⟨a, b⟩ => ⟨a, b⟩)
theorem gives_says {w : World} {v : Value} {e : Ending} {w' : World} (h : Says w v e w') : Gives w v e w' := ⟨h.1, h.grow⟩
theorem gives_same {w : World} {v : Value} {e : Ending} {w' : World} (h : Same w v e w') : Gives w v e w' := ⟨h.1, h.2 ▸ Grow.refl _⟩
theorem rg_cell {w : World} {a : Addr} {v : Value} (h : w.cell? a = some v) : ∀ p : Regrown, (grow (redrawn w p.d) p.os).cell? a = some v := fun p => cell_regrown h p.d p.os
/-- The cells of a set, in each world of the class. -/
theorem rg_cells {w : World} {T : Nat} {s : TSet} {a b : Value} (h : Blk w T 24 (setVals s a b)) (p : Regrown) :
    (grow (redrawn w p.d) p.os).cell? ⟨T, 0, none⟩ = some (.int .i64 s.pl) ∧ (grow (redrawn w p.d) p.os).cell? ⟨T, 1, none⟩ = some a ∧ (grow (redrawn w p.d) p.os).cell? ⟨T, 2, none⟩ = some (.int .i64 s.wi) ∧ (grow (redrawn w p.d) p.os).cell? ⟨T, 3, none⟩ = some (.int .i64 s.dr) ∧ (grow (redrawn w p.d) p.os).cell? ⟨T, 4, none⟩ = some (.int .i64 s.fl) ∧ (grow (redrawn w p.d) p.os).cell? ⟨T, 5, none⟩ = some (.int .i64 s.co) ∧ (grow (redrawn w p.d) p.os).cell? ⟨T, 6, none⟩ = some (.int .i64 s.me) ∧ (grow (redrawn w p.d) p.os).cell? ⟨T, 7, none⟩ = some (.int .i64 s.de) ∧ (grow (redrawn w p.d) p.os).cell? ⟨T, 8, none⟩ = some b :=
  set_cells (h.grow (grow_rg w p))
end Go.Proofs.Ytjiahcfegfimmaa
