/-
  The laws of a ring for words. No condition.
-/
import Derived.Test.YtokidokmcbkodaaGvX08
namespace Go.Gv.W
set_option linter.unusedSimpArgs false
set_option linter.unusedVariables false
set_option linter.unusedSectionVars false
open Go.RowKit Go.Proofs

def plusB (v w : List Bool) : List Bool := (addB v w false).1
def minusB (v w : List Bool) : List Bool := (addB v (w.map (!·)) true).1
def mulB (v w : List Bool) : List Bool := timesB v 0 [] w
section
variable {k : Nat} {x y z : List Bool} (hk : 1 ≤ k) (hx : x.length = k) (hy : y.length = k) (hz : z.length = k)
include hx hy
theorem plusB_len : (plusB x y).length = k := by rw [plusB, addB_len _ _ _ (by omega), hx]
theorem plusB_num : bnum (plusB x y) = (bnum x + bnum y) % 2 ^ k := by rw [plusB, add_num (by omega), hx]
theorem minusB_len : (minusB x y).length = k := by rw [minusB, addB_len _ _ _ (by simp; omega), hx]
theorem minusB_num : bnum (minusB x y) = (bnum x + 2 ^ k - bnum y) % 2 ^ k := by rw [minusB, (sub_num (by omega)).1, hx]
include hk
theorem mulB_len : (mulB x y).length = k := by rw [mulB, (times_num (by omega) (by omega)).2, hx]
theorem mulB_num : bnum (mulB x y) = bnum x * bnum y % 2 ^ k := by rw [mulB, (times_num (by omega) (by omega)).1, hx]
theorem ring1 : plusB x y = plusB y x := bnum_inj (by rw [plusB_len hx hy, plusB_len hy hx]) (by rw [plusB_num hx hy, plusB_num hy hx, Nat.add_comm])
theorem ring4 : mulB x y = mulB y x := bnum_inj (by rw [mulB_len hk hx hy, mulB_len hk hy hx]) (by rw [mulB_num hk hx hy, mulB_num hk hy hx, Nat.mul_comm])
theorem ring5 : minusB (plusB x y) y = x := by
  have h1 := plusB_len hx hy
  have hyl : bnum y < 2 ^ k := hy ▸ bnum_lt y
  have hxl : bnum x < 2 ^ k := hx ▸ bnum_lt x
  refine bnum_inj (by rw [minusB_len h1 hy, hx]) ?_
  rw [minusB_num h1 hy, plusB_num hx hy]
  generalize 2 ^ k = m at *
  by_cases h : bnum x + bnum y < m
  · rw [Nat.mod_eq_of_lt h, show bnum x + bnum y + m - bnum y = bnum x + m by omega, Nat.add_mod_right, Nat.mod_eq_of_lt hxl]
  · have h5 : (bnum x + bnum y) % m = bnum x + bnum y - m := by rw [Nat.mod_eq_sub_mod (by omega), Nat.mod_eq_of_lt (by omega)]
    rw [h5, show bnum x + bnum y - m + m - bnum y = bnum x by omega, Nat.mod_eq_of_lt hxl]
include hz
theorem ring2 : plusB (plusB x y) z = plusB x (plusB y z) := by
  have h1 := plusB_len hx hy
  have h2 := plusB_len hy hz
  refine bnum_inj (by rw [plusB_len h1 hz, plusB_len hx h2]) ?_
  rw [plusB_num h1 hz, plusB_num hx h2, plusB_num hx hy, plusB_num hy hz, Nat.mod_add_mod, Nat.add_mod_mod, Nat.add_assoc]
theorem ring3 : mulB x (plusB y z) = plusB (mulB x y) (mulB x z) := by
  have h1 := plusB_len hy hz
  have h2 := mulB_len hk hx hy
  have h3 := mulB_len hk hx hz
  refine bnum_inj (by rw [mulB_len hk hx h1, plusB_len h2 h3]) ?_
  rw [mulB_num hk hx h1, plusB_num h2 h3, plusB_num hy hz, mulB_num hk hx hy, mulB_num hk hx hz, Nat.mul_mod_mod, Nat.mod_add_mod, Nat.add_mod_mod, Nat.mul_add]
omit hk hz
theorem one_of_three : (decide (bnum x < bnum y)).toNat + (decide (bnum y < bnum x)).toNat + (decide (x = y)).toNat = 1 := by
  have h : x = y ↔ bnum x = bnum y := ⟨fun h => by rw [h], fun h => bnum_inj (by omega) h⟩
  rcases Nat.lt_trichotomy (bnum x) (bnum y) with h1 | h1 | h1
  · rw [decide_eq_true h1, decide_eq_false (by omega), decide_eq_false (by rw [h]; omega)]; rfl
  · rw [decide_eq_false (by omega), decide_eq_false (by omega), decide_eq_true (h.2 h1)]; rfl
  · rw [decide_eq_false (by omega), decide_eq_true h1, decide_eq_false (by rw [h]; omega)]; rfl
end
end Go.Gv.W
