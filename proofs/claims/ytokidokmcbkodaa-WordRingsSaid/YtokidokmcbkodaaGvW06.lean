/-
  How many gates have a kind. No condition.
-/
import Derived.Test.YtokidokmcbkodaaGvW05
namespace Go.Gv.W
set_option linter.unusedSimpArgs false
set_option linter.unusedVariables false
set_option linter.unusedSectionVars false
open Go.RowKit Go.Proofs



/-- How many gates have a kind. -/
def countG (kind : Int) : List Gate → Nat
  | [] => 0
  | g :: r => (if g.kind = kind then 1 else 0) + countG kind r
theorem countG_le (kind : Int) : ∀ l, countG kind l ≤ l.length
  | [] => Nat.le_refl _
  | g :: r => by have := countG_le kind r; rw [countG, List.length_cons]; split <;> omega
end Go.Gv.W
