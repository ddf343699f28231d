/-
  Whether two lists of numbers are one. No condition.
-/
import Derived.Test.YtokidokmcbkodaaGvW06
namespace Go.Gv.W
set_option linter.unusedSimpArgs false
set_option linter.unusedVariables false
set_option linter.unusedSectionVars false
open Go.RowKit Go.Proofs

/-- junto/juntoref12.ints -/
def r_ref12_ints : RFn := ⟨26,
  .seq (.reg [] [
    ⟨(some 4), none, .mv (.c (.bool false))⟩]) <|
  .keep [0, 1] <|
  .seq (.seq (.reg [] [
    ⟨(some 6), none, .mv (.t 0)⟩,
    ⟨(some 7), none, .len (.t 6)⟩,
    ⟨(some 8), none, .mv (.t 1)⟩,
    ⟨(some 9), none, .len (.t 8)⟩,
    ⟨(some 10), none, .bin .neq (.t 7) (.t 9)⟩]) <|
  .keep [0, 1, 10] <|
  .cond (.t 10)
    (.seq (.reg [] [
      ⟨(some 4), none, .mv (.c (.bool false))⟩]) <|
    .ret)
    (.skip)) <|
  .keep [0, 1] <|
  .seq (.seq (.reg [] [
    ⟨(some 11), none, .mv (.t 0)⟩,
    ⟨(some 12), none, .len (.t 11)⟩,
    ⟨(some 13), none, .mv (.c (.int .i64 0))⟩]) <|
  .keep [0, 1, 12, 13] <|
  .block 0 <|
  .loop [0, 1, 12, 13] [1000000] <|
  .seq (.reg [] [
    ⟨(some 14), none, .bin .lss (.t 13) (.t 12)⟩]) <|
  .keep [0, 1, 12, 13, 14] <|
  .seq (.cond (.t 14)
    (.skip)
    (.exit 0)) <|
  .keep [0, 1, 12, 13] <|
  .seq (.block 1 <|
  .seq (.reg [] [
    ⟨(some 15), none, .mv (.t 13)⟩,
    ⟨(some 5), none, .mv (.t 15)⟩]) <|
  .keep [0, 1, 5, 12, 13] <|
  .seq (.dreg [] <|
    .take 0 ⟨(some 16), none, .mv (.t 0)⟩ <|
    .take 1 ⟨(some 17), none, .mv (.t 5)⟩ <|
    .take 2 ⟨(some 18), none, .iad 1 (.t 16) (.t 17)⟩ <|
    .take 4 ⟨(some 20), none, .mv (.t 1)⟩ <|
    .take 5 ⟨(some 21), none, .mv (.t 5)⟩ <|
    .take 6 ⟨(some 22), none, .iad 1 (.t 20) (.t 21)⟩ <|
    .held 3 ⟨(some 19), none, .ld none none (.t 18)⟩ <|
    .exec [] 7 ⟨(some 23), none, .ld none none (.t 22)⟩ <|
    .exec [] 8 ⟨(some 24), none, .bin .neq (.t 19) (.t 23)⟩ <|
    .done) <|
  .keep [0, 1, 12, 13, 24] <|
  .cond (.t 24)
    (.seq (.reg [] [
      ⟨(some 4), none, .mv (.c (.bool false))⟩]) <|
    .ret)
    (.skip)) <|
  .keep [0, 1, 12, 13] <|
  .reg [] [
    ⟨(some 25), none, .bin .add (.t 13) (.c (.int .i64 1))⟩,
    ⟨(some 13), none, .mv (.t 25)⟩]) <|
  .keep [] <|
  .seq (.reg [] [
    ⟨(some 4), none, .mv (.c (.bool true))⟩]) <|
  .ret,
  [.tmp 4], [], []⟩

theorem k_ref12_ints : rbFn Try.prog 51 r_ref12_ints = some r_ref12_ints := by kernel_rfl


theorem c_ints {v u : Value} {l m : List Int} {G : GH} (hv : SlI G .i64 v l) (hu : SlI G .i64 u m) : Pure 51 [v, u] G (.bool (decide (l = m))) := by
  obtain ⟨a, c, rfl, h1, h2, hrow⟩ := hv
  obtain ⟨a', c', rfl, h1', h2', hrow'⟩ := hu
  refine acalls mixed k_ref12_ints (by simp) fun F => ?_
  simp only [GV, frArgs, memArgs, resV, fillL, ← Bool.decide_or, ← Bool.decide_and, ← decide_not, ↓reduceIte, Nat.reduceEqDiff, Nat.reduceAdd, Nat.reduceMul, Nat.reduceLeDiff, Nat.reduceLT, Nat.reduceSub, Nat.succ_ne_zero, Nat.one_ne_zero, Nat.zero_ne_one, true_implies, false_implies, forall_const, implies_true, reduceCtorEq, eq_self, ite_true, ite_false, decide_true, decide_false, Nat.le_refl, Bool.false_eq_true, if_true, if_false]
  refine cond_dec (fun h => ?_) (fun h => ?_)
  · have e : l ≠ m := fun e => by subst e; exact h rfl
    simp only [GV, frArgs, memArgs, resV, fillL, ← Bool.decide_or, ← Bool.decide_and, ← decide_not, ↓reduceIte, Nat.reduceEqDiff, Nat.reduceAdd, Nat.reduceMul, Nat.reduceLeDiff, Nat.reduceLT, Nat.reduceSub, Nat.succ_ne_zero, Nat.one_ne_zero, Nat.zero_ne_one, true_implies, false_implies, forall_const, implies_true, reduceCtorEq, eq_self, ite_true, ite_false, decide_true, decide_false, Nat.le_refl, Bool.false_eq_true, if_true, if_false, decide_eq_false e]
  have hlm : l.length = m.length := by omega
  simp only [GV, frArgs, memArgs, resV, fillL, ← Bool.decide_or, ← Bool.decide_and, ← decide_not, ↓reduceIte, Nat.reduceEqDiff, Nat.reduceAdd, Nat.reduceMul, Nat.reduceLeDiff, Nat.reduceLT, Nat.reduceSub, Nat.succ_ne_zero, Nat.one_ne_zero, Nat.zero_ne_one, true_implies, false_implies, forall_const, implies_true, reduceCtorEq, eq_self, ite_true, ite_false, decide_true, decide_false, Nat.le_refl, Bool.false_eq_true, if_true, if_false]
  refine loop_intro (fun n fr G' M => ∃ i : Nat, n = l.length - i ∧ i ≤ l.length ∧ (∀ j, j < i → l[j]? = m[j]?) ∧ G' = G ∧ fr = [(0, true, .slice a l.length c), (1, true, .slice a' m.length c'), (12, true, .int .i64 l.length), (13, true, .int .i64 i)] ∧ M = [(1000000, F)]) l.length ⟨0, by simp, by simp, by simp, rfl, by simp, rfl⟩ ?_
  rintro n fr G1 M - ⟨i, rfl, hi, hp, rfl, rfl, rfl⟩
  simp only [GV, frArgs, memArgs, resV, fillL, ← Bool.decide_or, ← Bool.decide_and, ← decide_not, ↓reduceIte, Nat.reduceEqDiff, Nat.reduceAdd, Nat.reduceMul, Nat.reduceLeDiff, Nat.reduceLT, Nat.reduceSub, Nat.succ_ne_zero, Nat.one_ne_zero, Nat.zero_ne_one, true_implies, false_implies, forall_const, implies_true, reduceCtorEq, eq_self, ite_true, ite_false, decide_true, decide_false, Nat.le_refl, Bool.false_eq_true, if_true, if_false]
  refine cond_dec (fun h => ?_) (fun h => ?_)
  · have hlt : i < l.length := by omega
    have hlt' : i < m.length := by omega
    obtain ⟨b, o, rfl, hx⟩ := RowI.get hrow hlt
    obtain ⟨b', o', rfl, hx'⟩ := RowI.get hrow' hlt'
    simp only [GV, frArgs, memArgs, resV, fillL, ← Bool.decide_or, ← Bool.decide_and, ← decide_not, ↓reduceIte, Nat.reduceEqDiff, Nat.reduceAdd, Nat.reduceMul, Nat.reduceLeDiff, Nat.reduceLT, Nat.reduceSub, Nat.succ_ne_zero, Nat.one_ne_zero, Nat.zero_ne_one, true_implies, false_implies, forall_const, implies_true, reduceCtorEq, eq_self, ite_true, ite_false, decide_true, decide_false, Nat.le_refl, Bool.false_eq_true, if_true, if_false, hx, hx', Nat.mul_one]
    refine ⟨by omega, by omega, cond_dec (fun h3 => ?_) (fun h3 => ?_)⟩
    · have e : l ≠ m := fun e => by subst e; exact h3 rfl
      simp only [GV, frArgs, memArgs, resV, fillL, ← Bool.decide_or, ← Bool.decide_and, ← decide_not, ↓reduceIte, Nat.reduceEqDiff, Nat.reduceAdd, Nat.reduceMul, Nat.reduceLeDiff, Nat.reduceLT, Nat.reduceSub, Nat.succ_ne_zero, Nat.one_ne_zero, Nat.zero_ne_one, true_implies, false_implies, forall_const, implies_true, reduceCtorEq, eq_self, ite_true, ite_false, decide_true, decide_false, Nat.le_refl, Bool.false_eq_true, if_true, if_false, decide_eq_false e]
    · simp only [GV, frArgs, memArgs, resV, fillL, ← Bool.decide_or, ← Bool.decide_and, ← decide_not, ↓reduceIte, Nat.reduceEqDiff, Nat.reduceAdd, Nat.reduceMul, Nat.reduceLeDiff, Nat.reduceLT, Nat.reduceSub, Nat.succ_ne_zero, Nat.one_ne_zero, Nat.zero_ne_one, true_implies, false_implies, forall_const, implies_true, reduceCtorEq, eq_self, ite_true, ite_false, decide_true, decide_false, Nat.le_refl, Bool.false_eq_true, if_true, if_false, wrapn (show i < maxLen by omega)]
      refine ⟨l.length - (i + 1), by omega, i + 1, rfl, by omega, fun j hj => ?_, rfl⟩
      rcases Nat.lt_succ_iff_lt_or_eq.1 hj with hj | rfl
      · exact hp j hj
      · rw [List.getElem?_eq_getElem hlt, List.getElem?_eq_getElem hlt']
        exact congrArg some (Decidable.not_not.1 h3)
  · have e : l = m := List.ext_getElem? fun j => by
      rcases Nat.lt_or_ge j i with h4 | h4
      · exact hp j h4
      · rw [List.getElem?_eq_none (by omega), List.getElem?_eq_none (by omega)]
    simp only [GV, frArgs, memArgs, resV, fillL, ← Bool.decide_or, ← Bool.decide_and, ← decide_not, ↓reduceIte, Nat.reduceEqDiff, Nat.reduceAdd, Nat.reduceMul, Nat.reduceLeDiff, Nat.reduceLT, Nat.reduceSub, Nat.succ_ne_zero, Nat.one_ne_zero, Nat.zero_ne_one, true_implies, false_implies, forall_const, implies_true, reduceCtorEq, eq_self, ite_true, ite_false, decide_true, decide_false, Nat.le_refl, Bool.false_eq_true, if_true, if_false, decide_eq_true e]
end Go.Gv.W
