/-
  Searches, and exits. No condition.
-/
import Derived.Test.YtokidokmcbkodaaGvW02
namespace Go.Gv.W
set_option linter.unusedSimpArgs false
set_option linter.unusedVariables false
set_option linter.unusedSectionVars false
open Go.RowKit Go.Proofs

/-- Where the first one is. -/
def findAt (p : Int → Bool) : Nat → List Int → Int
  | _, [] => -1
  | i, x :: r => if p x then (i : Int) else findAt p (i + 1) r
theorem findAt_iff (p : Int → Bool) : ∀ (l : List Int) (i : Nat), 0 ≤ findAt p i l ↔ l.any p = true
  | [], i => by simp [findAt]
  | x :: r, i => by
    have ih := findAt_iff p r (i + 1)
    rw [findAt, List.any_cons, Bool.or_eq_true]
    by_cases h : p x = true
    · rw [if_pos h]; exact ⟨fun _ => .inl h, fun _ => Int.natCast_nonneg _⟩
    · rw [if_neg h, ih]; exact ⟨.inr, fun h' => h'.resolve_left h⟩
theorem findAt_any (p : Int → Bool) (l : List Int) (i : Nat) : decide (0 ≤ findAt p i l) = l.any p := by
  rw [Bool.eq_iff_iff, decide_eq_true_eq]; exact findAt_iff p l i
theorem c_IndexFunc {v : Value} {l : List Int} {f : FuncId} {x y : List Value} {pB : Int → Bool} {G : GH} (hv : SlI G .i64 v l) (hf : ∀ e ∈ l, Pure f (x ++ [.int .i64 e] ++ y) G (.bool (pB e))) :
    Pure 91 [v, .func (.func f) x.toArray y.toArray] G (.int .i64 (findAt pB 0 l)) := by
  obtain ⟨a, c, rfl, h1, h2, hrow⟩ := hv
  refine acalls mixed k_slices_IndexFunc_Sint_int (by simp) fun F => ?_
  simp only [GV, frArgs, memArgs, resV, fillL, ← Bool.decide_or, ← Bool.decide_and, ← decide_not, ↓reduceIte, Nat.reduceEqDiff, Nat.reduceAdd, Nat.reduceMul, Nat.reduceLeDiff, Nat.reduceLT, Nat.reduceSub, Nat.succ_ne_zero, Nat.one_ne_zero, Nat.zero_ne_one, true_implies, false_implies, forall_const, implies_true, reduceCtorEq, eq_self, ite_true, ite_false, decide_true, decide_false, Nat.le_refl, Bool.false_eq_true, if_true, if_false]
  refine loop_intro (fun n fr G' M => ∃ i : Nat, n = l.length - i ∧ i ≤ l.length ∧ findAt pB i (l.drop i) = findAt pB 0 l ∧ G' = G ∧ fr = [(0, true, .slice a l.length c), (1, true, .func (.func f) x.toArray y.toArray), (7, true, .int .i64 l.length), (8, true, .int .i64 i)] ∧ M = [(1000000, F)]) l.length ⟨0, by simp, by simp, by simp, rfl, by simp, rfl⟩ ?_
  rintro n fr G1 M - ⟨i, rfl, hi, hp, rfl, rfl, rfl⟩
  simp only [GV, frArgs, memArgs, resV, fillL, ← Bool.decide_or, ← Bool.decide_and, ← decide_not, ↓reduceIte, Nat.reduceEqDiff, Nat.reduceAdd, Nat.reduceMul, Nat.reduceLeDiff, Nat.reduceLT, Nat.reduceSub, Nat.succ_ne_zero, Nat.one_ne_zero, Nat.zero_ne_one, true_implies, false_implies, forall_const, implies_true, reduceCtorEq, eq_self, ite_true, ite_false, decide_true, decide_false, Nat.le_refl, Bool.false_eq_true, if_true, if_false]
  refine cond_dec (fun h => ?_) (fun h => ?_)
  · have hlt : i < l.length := by omega
    obtain ⟨b, o, rfl, hx⟩ := RowI.get hrow hlt
    rw [List.drop_eq_getElem_cons hlt, findAt] at hp
    simp only [GV, frArgs, memArgs, resV, fillL, ← Bool.decide_or, ← Bool.decide_and, ← decide_not, ↓reduceIte, Nat.reduceEqDiff, Nat.reduceAdd, Nat.reduceMul, Nat.reduceLeDiff, Nat.reduceLT, Nat.reduceSub, Nat.succ_ne_zero, Nat.one_ne_zero, Nat.zero_ne_one, true_implies, false_implies, forall_const, implies_true, reduceCtorEq, eq_self, ite_true, ite_false, decide_true, decide_false, Nat.le_refl, Bool.false_eq_true, if_true, if_false, hx, Nat.mul_one]
    refine ⟨by omega, (hf l[i] (List.getElem_mem hlt)).mono ?_⟩
    rintro o G1 Es hg ⟨rfl, rfl, rfl⟩
    simp only [GV, frArgs, memArgs, resV, fillL, ← Bool.decide_or, ← Bool.decide_and, ← decide_not, ↓reduceIte, Nat.reduceEqDiff, Nat.reduceAdd, Nat.reduceMul, Nat.reduceLeDiff, Nat.reduceLT, Nat.reduceSub, Nat.succ_ne_zero, Nat.one_ne_zero, Nat.zero_ne_one, true_implies, false_implies, forall_const, implies_true, reduceCtorEq, eq_self, ite_true, ite_false, decide_true, decide_false, Nat.le_refl, Bool.false_eq_true, if_true, if_false]
    refine cond_intro (fun h3 => ?_) (fun h3 => ?_)
    · rw [h3] at hp
      simp only [GV, frArgs, memArgs, resV, fillL, ← Bool.decide_or, ← Bool.decide_and, ← decide_not, ↓reduceIte, Nat.reduceEqDiff, Nat.reduceAdd, Nat.reduceMul, Nat.reduceLeDiff, Nat.reduceLT, Nat.reduceSub, Nat.succ_ne_zero, Nat.one_ne_zero, Nat.zero_ne_one, true_implies, false_implies, forall_const, implies_true, reduceCtorEq, eq_self, ite_true, ite_false, decide_true, decide_false, Nat.le_refl, Bool.false_eq_true, if_true, if_false]
      rw [← hp, if_pos rfl]
    · rw [h3] at hp
      simp only [GV, frArgs, memArgs, resV, fillL, ← Bool.decide_or, ← Bool.decide_and, ← decide_not, ↓reduceIte, Nat.reduceEqDiff, Nat.reduceAdd, Nat.reduceMul, Nat.reduceLeDiff, Nat.reduceLT, Nat.reduceSub, Nat.succ_ne_zero, Nat.one_ne_zero, Nat.zero_ne_one, true_implies, false_implies, forall_const, implies_true, reduceCtorEq, eq_self, ite_true, ite_false, decide_true, decide_false, Nat.le_refl, Bool.false_eq_true, if_true, if_false, wrapn (show i < maxLen by omega)]
      exact ⟨l.length - (i + 1), by omega, i + 1, rfl, by omega, by simpa using hp, rfl⟩
  · simp only [GV, frArgs, memArgs, resV, fillL, ← Bool.decide_or, ← Bool.decide_and, ← decide_not, ↓reduceIte, Nat.reduceEqDiff, Nat.reduceAdd, Nat.reduceMul, Nat.reduceLeDiff, Nat.reduceLT, Nat.reduceSub, Nat.succ_ne_zero, Nat.one_ne_zero, Nat.zero_ne_one, true_implies, false_implies, forall_const, implies_true, reduceCtorEq, eq_self, ite_true, ite_false, decide_true, decide_false, Nat.le_refl, Bool.false_eq_true, if_true, if_false]
    rw [← hp, List.drop_eq_nil_of_le (by omega)]
    rfl
theorem c_ContainsFunc {v : Value} {l : List Int} {f : FuncId} {x y : List Value} {pB : Int → Bool} {G : GH} (hv : SlI G .i64 v l) (hf : ∀ e ∈ l, Pure f (x ++ [.int .i64 e] ++ y) G (.bool (pB e))) :
    Pure 84 [v, .func (.func f) x.toArray y.toArray] G (.bool (l.any pB)) := by
  refine acalls mixed k_slices_ContainsFunc_Sint_int (by simp) fun F => ?_
  simp only [GV, frArgs, memArgs, resV, fillL, ← Bool.decide_or, ← Bool.decide_and, ← decide_not, ↓reduceIte, Nat.reduceEqDiff, Nat.reduceAdd, Nat.reduceMul, Nat.reduceLeDiff, Nat.reduceLT, Nat.reduceSub, Nat.succ_ne_zero, Nat.one_ne_zero, Nat.zero_ne_one, true_implies, false_implies, forall_const, implies_true, reduceCtorEq, eq_self, ite_true, ite_false, decide_true, decide_false, Nat.le_refl, Bool.false_eq_true, if_true, if_false]
  refine (c_IndexFunc hv hf).mono ?_
  rintro o G1 Es hg ⟨rfl, rfl, rfl⟩
  simp only [GV, frArgs, memArgs, resV, fillL, ← Bool.decide_or, ← Bool.decide_and, ← decide_not, ↓reduceIte, Nat.reduceEqDiff, Nat.reduceAdd, Nat.reduceMul, Nat.reduceLeDiff, Nat.reduceLT, Nat.reduceSub, Nat.succ_ne_zero, Nat.one_ne_zero, Nat.zero_ne_one, true_implies, false_implies, forall_const, implies_true, reduceCtorEq, eq_self, ite_true, ite_false, decide_true, decide_false, Nat.le_refl, Bool.false_eq_true, if_true, if_false]
  rw [findAt_any]

/-- Rising numbers of parties. -/
def risingB (most : Int) : Int → List Int → Bool
  | _, [] => true
  | last, t :: r => decide (last < t ∧ t ≤ most) && risingB most t r
/-- What is wrong with an exit. -/
def exitErr (gates : Nat) (x : Exit) : Int :=
  if risingB 13 0 x.to = false then 2 else if 1024 < x.gates.length then 3 else if x.gates.any (fun g => decide (g < 0 ∨ (gates : Int) ≤ g)) then 13 else 0
theorem c_Exit1 {b : Nat} {gates : Nat} {g : Int} {G : GH} (h : G b 0 = some (.int .i64 gates)) : Pure 88 [.int .i64 g, .pointer (some ⟨b, 0, none⟩)] G (.bool (decide (g < 0 ∨ (gates : Int) ≤ g))) := by
  refine acalls mixed k_circ_Exit_1 (by simp) fun F => ?_
  simp only [GV, frArgs, memArgs, resV, fillL, ← Bool.decide_or, ← Bool.decide_and, ← decide_not, ↓reduceIte, Nat.reduceEqDiff, Nat.reduceAdd, Nat.reduceMul, Nat.reduceLeDiff, Nat.reduceLT, Nat.reduceSub, Nat.succ_ne_zero, Nat.one_ne_zero, Nat.zero_ne_one, true_implies, false_implies, forall_const, implies_true, reduceCtorEq, eq_self, ite_true, ite_false, decide_true, decide_false, Nat.le_refl, Bool.false_eq_true, if_true, if_false, h]
  refine gld_use (.int .i64 gates) (fun hc => ?_) ?_
  · simp only [GV, frArgs, memArgs, resV, fillL, ← Bool.decide_or, ← Bool.decide_and, ← decide_not, ↓reduceIte, Nat.reduceEqDiff, Nat.reduceAdd, Nat.reduceMul, Nat.reduceLeDiff, Nat.reduceLT, Nat.reduceSub, Nat.succ_ne_zero, Nat.one_ne_zero, Nat.zero_ne_one, true_implies, false_implies, forall_const, implies_true, reduceCtorEq, eq_self, ite_true, ite_false, decide_true, decide_false, Nat.le_refl, Bool.false_eq_true, if_true, if_false, h]
  · simp only [GV, frArgs, memArgs, resV, fillL, ← Bool.decide_or, ← Bool.decide_and, ← decide_not, ↓reduceIte, Nat.reduceEqDiff, Nat.reduceAdd, Nat.reduceMul, Nat.reduceLeDiff, Nat.reduceLT, Nat.reduceSub, Nat.succ_ne_zero, Nat.one_ne_zero, Nat.zero_ne_one, true_implies, false_implies, forall_const, implies_true, reduceCtorEq, eq_self, ite_true, ite_false, decide_true, decide_false, Nat.le_refl, Bool.false_eq_true, if_true, if_false]

theorem c_Exit {gates : Nat} {v u : Value} {x : Exit} {G : GH} (hv : SlI G .i64 v x.to) (hu : SlI G .i64 u x.gates) : Pure 70 [.int .i64 gates, .agg #[v, u]] G (.int .i64 (exitErr gates x)) := by
  obtain ⟨to_, gs⟩ := x
  have hu' := hu
  obtain ⟨a, c, rfl, h1, h2, hrow⟩ := hv
  obtain ⟨a', c', rfl, h1', h2', hrow'⟩ := hu
  simp only at *
  refine pure_of (acalls mixed k_circ_Exit (by simp) fun F => ?_)
  simp only [GV, frArgs, memArgs, resV, fillL, ← Bool.decide_or, ← Bool.decide_and, ← decide_not, ↓reduceIte, Nat.reduceEqDiff, Nat.reduceAdd, Nat.reduceMul, Nat.reduceLeDiff, Nat.reduceLT, Nat.reduceSub, Nat.succ_ne_zero, Nat.one_ne_zero, Nat.zero_ne_one, true_implies, false_implies, forall_const, implies_true, reduceCtorEq, eq_self, ite_true, ite_false, decide_true, decide_false, Nat.le_refl, Bool.false_eq_true, if_true, if_false]
  intro bg bx
  refine settle_intro fun G' hg hc => ?_
  have hgates : G' bg 0 = some (.int .i64 gates) := hc 0 _ rfl
  replace hrow := hrow.mono hg
  replace hu' := hu'.mono hg
  simp only [GV, frArgs, memArgs, resV, fillL, ← Bool.decide_or, ← Bool.decide_and, ← decide_not, ↓reduceIte, Nat.reduceEqDiff, Nat.reduceAdd, Nat.reduceMul, Nat.reduceLeDiff, Nat.reduceLT, Nat.reduceSub, Nat.succ_ne_zero, Nat.one_ne_zero, Nat.zero_ne_one, true_implies, false_implies, forall_const, implies_true, reduceCtorEq, eq_self, ite_true, ite_false, decide_true, decide_false, Nat.le_refl, Bool.false_eq_true, if_true, if_false]
  refine loop_intro (fun n fr G1 M => ∃ (i : Nat) (last : Int), n = to_.length - i ∧ i ≤ to_.length ∧ risingB 13 last (to_.drop i) = risingB 13 0 to_ ∧ G1 = G' ∧ fr = [(2, true, .pointer (some ⟨bg, 0, none⟩)), (3, true, .pointer (some ⟨bx, 0, none⟩)), (5, true, .int .i64 last), (9, true, .slice a to_.length c), (10, true, .int .i64 to_.length), (11, true, .int .i64 i)] ∧
    M = [(103, [.var bx 56 [.slice a to_.length c, .slice a' gs.length c']]), (1000000, F)]) to_.length ⟨0, 0, by simp, by simp, by simp, rfl, by simp, rfl⟩ ?_
  rintro n fr G1 M - ⟨i, last, rfl, hi, hp, rfl, rfl, rfl⟩
  simp only [GV, frArgs, memArgs, resV, fillL, ← Bool.decide_or, ← Bool.decide_and, ← decide_not, ↓reduceIte, Nat.reduceEqDiff, Nat.reduceAdd, Nat.reduceMul, Nat.reduceLeDiff, Nat.reduceLT, Nat.reduceSub, Nat.succ_ne_zero, Nat.one_ne_zero, Nat.zero_ne_one, true_implies, false_implies, forall_const, implies_true, reduceCtorEq, eq_self, ite_true, ite_false, decide_true, decide_false, Nat.le_refl, Bool.false_eq_true, if_true, if_false]
  refine cond_dec (fun h => ?_) (fun h => ?_)
  · have hlt : i < to_.length := by omega
    obtain ⟨b, o, rfl, hx⟩ := RowI.get hrow hlt
    rw [List.drop_eq_getElem_cons hlt, risingB] at hp
    simp only [GV, frArgs, memArgs, resV, fillL, ← Bool.decide_or, ← Bool.decide_and, ← decide_not, ↓reduceIte, Nat.reduceEqDiff, Nat.reduceAdd, Nat.reduceMul, Nat.reduceLeDiff, Nat.reduceLT, Nat.reduceSub, Nat.succ_ne_zero, Nat.one_ne_zero, Nat.zero_ne_one, true_implies, false_implies, forall_const, implies_true, reduceCtorEq, eq_self, ite_true, ite_false, decide_true, decide_false, Nat.le_refl, Bool.false_eq_true, if_true, if_false, hx, Nat.mul_one]
    refine ⟨by omega, cond_dec (fun h3 => ?_) (fun h3 => ?_)⟩
    · have hr : risingB 13 0 to_ = false := by rw [← hp, Bool.and_eq_false_iff]; exact .inl (decide_eq_false (by omega))
      simp only [GV, frArgs, memArgs, resV, fillL, ← Bool.decide_or, ← Bool.decide_and, ← decide_not, ↓reduceIte, Nat.reduceEqDiff, Nat.reduceAdd, Nat.reduceMul, Nat.reduceLeDiff, Nat.reduceLT, Nat.reduceSub, Nat.succ_ne_zero, Nat.one_ne_zero, Nat.zero_ne_one, true_implies, false_implies, forall_const, implies_true, reduceCtorEq, eq_self, ite_true, ite_false, decide_true, decide_false, Nat.le_refl, Bool.false_eq_true, if_true, if_false, exitErr, hr]
    · have hr : risingB 13 to_[i] (to_.drop (i + 1)) = risingB 13 0 to_ := by rw [← hp, decide_eq_true (show last < to_[i] ∧ to_[i] ≤ 13 by omega), Bool.true_and]
      simp only [GV, frArgs, memArgs, resV, fillL, ← Bool.decide_or, ← Bool.decide_and, ← decide_not, ↓reduceIte, Nat.reduceEqDiff, Nat.reduceAdd, Nat.reduceMul, Nat.reduceLeDiff, Nat.reduceLT, Nat.reduceSub, Nat.succ_ne_zero, Nat.one_ne_zero, Nat.zero_ne_one, true_implies, false_implies, forall_const, implies_true, reduceCtorEq, eq_self, ite_true, ite_false, decide_true, decide_false, Nat.le_refl, Bool.false_eq_true, if_true, if_false, wrapn (show i < maxLen by omega)]
      exact ⟨to_.length - (i + 1), by omega, i + 1, _, rfl, by omega, hr, rfl⟩
  · have hr : risingB 13 0 to_ = true := by rw [← hp, List.drop_eq_nil_of_le (by omega)]; rfl
    simp only [GV, frArgs, memArgs, resV, fillL, ← Bool.decide_or, ← Bool.decide_and, ← decide_not, ↓reduceIte, Nat.reduceEqDiff, Nat.reduceAdd, Nat.reduceMul, Nat.reduceLeDiff, Nat.reduceLT, Nat.reduceSub, Nat.succ_ne_zero, Nat.one_ne_zero, Nat.zero_ne_one, true_implies, false_implies, forall_const, implies_true, reduceCtorEq, eq_self, ite_true, ite_false, decide_true, decide_false, Nat.le_refl, Bool.false_eq_true, if_true, if_false]
    refine cond_dec (fun h3 => ?_) (fun h3 => ?_)
    · simp only [GV, frArgs, memArgs, resV, fillL, ← Bool.decide_or, ← Bool.decide_and, ← decide_not, ↓reduceIte, Nat.reduceEqDiff, Nat.reduceAdd, Nat.reduceMul, Nat.reduceLeDiff, Nat.reduceLT, Nat.reduceSub, Nat.succ_ne_zero, Nat.one_ne_zero, Nat.zero_ne_one, true_implies, false_implies, forall_const, implies_true, reduceCtorEq, eq_self, ite_true, ite_false, decide_true, decide_false, Nat.le_refl, Bool.false_eq_true, if_true, if_false, exitErr, hr, if_pos (show 1024 < gs.length by omega)]
    · simp only [GV, frArgs, memArgs, resV, fillL, ← Bool.decide_or, ← Bool.decide_and, ← decide_not, ↓reduceIte, Nat.reduceEqDiff, Nat.reduceAdd, Nat.reduceMul, Nat.reduceLeDiff, Nat.reduceLT, Nat.reduceSub, Nat.succ_ne_zero, Nat.one_ne_zero, Nat.zero_ne_one, true_implies, false_implies, forall_const, implies_true, reduceCtorEq, eq_self, ite_true, ite_false, decide_true, decide_false, Nat.le_refl, Bool.false_eq_true, if_true, if_false]
      refine (c_ContainsFunc (x := []) (y := [.pointer (some ⟨bg, 0, none⟩)]) (pB := fun g => decide (g < 0 ∨ (gates : Int) ≤ g)) hu' (fun e _ => c_Exit1 hgates)).mono ?_
      rintro o G1 Es hg ⟨rfl, rfl, rfl⟩
      simp only [GV, frArgs, memArgs, resV, fillL, ← Bool.decide_or, ← Bool.decide_and, ← decide_not, ↓reduceIte, Nat.reduceEqDiff, Nat.reduceAdd, Nat.reduceMul, Nat.reduceLeDiff, Nat.reduceLT, Nat.reduceSub, Nat.succ_ne_zero, Nat.one_ne_zero, Nat.zero_ne_one, true_implies, false_implies, forall_const, implies_true, reduceCtorEq, eq_self, ite_true, ite_false, decide_true, decide_false, Nat.le_refl, Bool.false_eq_true, if_true, if_false]
      refine cond_intro (fun h4 => ?_) (fun h4 => ?_)
      · simp only [GV, frArgs, memArgs, resV, fillL, ← Bool.decide_or, ← Bool.decide_and, ← decide_not, ↓reduceIte, Nat.reduceEqDiff, Nat.reduceAdd, Nat.reduceMul, Nat.reduceLeDiff, Nat.reduceLT, Nat.reduceSub, Nat.succ_ne_zero, Nat.one_ne_zero, Nat.zero_ne_one, true_implies, false_implies, forall_const, implies_true, reduceCtorEq, eq_self, ite_true, ite_false, decide_true, decide_false, Nat.le_refl, Bool.false_eq_true, if_true, if_false, exitErr, hr, if_neg (show ¬ 1024 < gs.length by omega), h4]
      · simp only [GV, frArgs, memArgs, resV, fillL, ← Bool.decide_or, ← Bool.decide_and, ← decide_not, ↓reduceIte, Nat.reduceEqDiff, Nat.reduceAdd, Nat.reduceMul, Nat.reduceLeDiff, Nat.reduceLT, Nat.reduceSub, Nat.succ_ne_zero, Nat.one_ne_zero, Nat.zero_ne_one, true_implies, false_implies, forall_const, implies_true, reduceCtorEq, eq_self, ite_true, ite_false, decide_true, decide_false, Nat.le_refl, Bool.false_eq_true, if_true, if_false, exitErr, hr, if_neg (show ¬ 1024 < gs.length by omega), h4]
end Go.Gv.W
