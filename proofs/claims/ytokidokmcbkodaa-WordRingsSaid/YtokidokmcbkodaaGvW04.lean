/-
  Exits, as the reference tells. No condition.
-/
import Derived.Test.YtokidokmcbkodaaGvW03
namespace Go.Gv.W
set_option linter.unusedSimpArgs false
set_option linter.unusedVariables false
set_option linter.unusedSectionVars false
open Go.RowKit Go.Proofs

theorem c_Rising {most : Int} {v : Value} {l : List Int} {G : GH} (hv : SlI G .i64 v l) : Pure 69 [.int .i64 most, v] G (.bool (risingB most 0 l)) := by
  obtain ⟨a, c, rfl, h1, h2, hrow⟩ := hv
  refine acalls mixed k_ref04_Rising (by simp) fun F => ?_
  simp only [GV, frArgs, memArgs, resV, fillL, ← Bool.decide_or, ← Bool.decide_and, ← decide_not, ↓reduceIte, Nat.reduceEqDiff, Nat.reduceAdd, Nat.reduceMul, Nat.reduceLeDiff, Nat.reduceLT, Nat.reduceSub, Nat.succ_ne_zero, Nat.one_ne_zero, Nat.zero_ne_one, true_implies, false_implies, forall_const, implies_true, reduceCtorEq, eq_self, ite_true, ite_false, decide_true, decide_false, Nat.le_refl, Bool.false_eq_true, if_true, if_false]
  refine loop_intro (fun n fr G' M => ∃ (i : Nat) (last : Int), n = l.length - i ∧ i ≤ l.length ∧ risingB most last (l.drop i) = risingB most 0 l ∧ (i = 0 → last = 0) ∧ (0 < i → 1 ≤ last ∧ l[i - 1]? = some last) ∧ G' = G ∧ fr = [(0, true, .int .i64 most), (1, true, .slice a l.length c), (7, true, .slice a l.length c), (8, true, .int .i64 l.length), (9, true, .int .i64 i)] ∧ M = [(1000000, F)]) l.length ⟨0, 0, by simp, by simp, by simp, by simp, by simp, rfl, by simp, rfl⟩ ?_
  rintro n fr G1 M - ⟨i, last, rfl, hi, hp, hl0, hl1, rfl, rfl, rfl⟩
  simp only [GV, frArgs, memArgs, resV, fillL, ← Bool.decide_or, ← Bool.decide_and, ← decide_not, ↓reduceIte, Nat.reduceEqDiff, Nat.reduceAdd, Nat.reduceMul, Nat.reduceLeDiff, Nat.reduceLT, Nat.reduceSub, Nat.succ_ne_zero, Nat.one_ne_zero, Nat.zero_ne_one, true_implies, false_implies, forall_const, implies_true, reduceCtorEq, eq_self, ite_true, ite_false, decide_true, decide_false, Nat.le_refl, Bool.false_eq_true, if_true, if_false]
  refine cond_dec (fun h => ?_) (fun h => ?_)
  · have hlt : i < l.length := by omega
    obtain ⟨b, o, rfl, hx⟩ := RowI.get hrow hlt
    rw [List.drop_eq_getElem_cons hlt, risingB] at hp
    simp only [GV, frArgs, memArgs, resV, fillL, ← Bool.decide_or, ← Bool.decide_and, ← decide_not, ↓reduceIte, Nat.reduceEqDiff, Nat.reduceAdd, Nat.reduceMul, Nat.reduceLeDiff, Nat.reduceLT, Nat.reduceSub, Nat.succ_ne_zero, Nat.one_ne_zero, Nat.zero_ne_one, true_implies, false_implies, forall_const, implies_true, reduceCtorEq, eq_self, ite_true, ite_false, decide_true, decide_false, Nat.le_refl, Bool.false_eq_true, if_true, if_false, hx, Nat.mul_one]
    refine ⟨by omega, ?_⟩
    have hw : 0 < i → IntKind.i64.wrap ((i : Int) - 1) = ((i - 1 : Nat) : Int) := fun h0 => by
      have : i < maxLen := by omega
      simp only [maxLen] at this
      rw [wrap64] <;> omega
    have hw0 : i = 0 → IntKind.i64.wrap ((i : Int) - 1) = -1 := fun h0 => by subst h0; rfl
    refine ⟨fun hc => ?_, ?_⟩
    · have hc' := of_decide_eq_true hc
      have h0 : 0 < i := by omega
      rw [hw h0]; omega
    refine gld_use (.int .i64 last) (fun hc => ?_) ?_
    · have hc' := of_decide_eq_true hc
      have h0 : 0 < i := by omega
      have hlt1 : i - 1 < l.length := by omega
      obtain ⟨b', o', e, hx1⟩ := RowI.get hrow hlt1
      cases e
      have hl : l[i - 1] = last := by
        have := (hl1 h0).2
        rw [List.getElem?_eq_getElem hlt1] at this
        simpa using this
      rw [hl] at hx1
      simp only [GV, frArgs, memArgs, resV, fillL, ← Bool.decide_or, ← Bool.decide_and, ← decide_not, ↓reduceIte, Nat.reduceEqDiff, Nat.reduceAdd, Nat.reduceMul, Nat.reduceLeDiff, Nat.reduceLT, Nat.reduceSub, Nat.succ_ne_zero, Nat.one_ne_zero, Nat.zero_ne_one, true_implies, false_implies, forall_const, implies_true, reduceCtorEq, eq_self, ite_true, ite_false, decide_true, decide_false, Nat.le_refl, Bool.false_eq_true, if_true, if_false, hw h0, hx1, hc]
    simp only [GV, frArgs, memArgs, resV, fillL, ← Bool.decide_or, ← Bool.decide_and, ← decide_not, ↓reduceIte, Nat.reduceEqDiff, Nat.reduceAdd, Nat.reduceMul, Nat.reduceLeDiff, Nat.reduceLT, Nat.reduceSub, Nat.succ_ne_zero, Nat.one_ne_zero, Nat.zero_ne_one, true_implies, false_implies, forall_const, implies_true, reduceCtorEq, eq_self, ite_true, ite_false, decide_true, decide_false, Nat.le_refl, Bool.false_eq_true, if_true, if_false]
    refine cond_dec (fun h3 => ?_) (fun h3 => ?_)
    · have hr : risingB most 0 l = false := by rw [← hp, Bool.and_eq_false_iff]; exact .inl (decide_eq_false (by omega))
      simp only [GV, frArgs, memArgs, resV, fillL, ← Bool.decide_or, ← Bool.decide_and, ← decide_not, ↓reduceIte, Nat.reduceEqDiff, Nat.reduceAdd, Nat.reduceMul, Nat.reduceLeDiff, Nat.reduceLT, Nat.reduceSub, Nat.succ_ne_zero, Nat.one_ne_zero, Nat.zero_ne_one, true_implies, false_implies, forall_const, implies_true, reduceCtorEq, eq_self, ite_true, ite_false, decide_true, decide_false, Nat.le_refl, Bool.false_eq_true, if_true, if_false, hr]
    · have hr : risingB most l[i] (l.drop (i + 1)) = risingB most 0 l := by
        rw [← hp, decide_eq_true (show last < l[i] ∧ l[i] ≤ most by
          rcases Nat.eq_zero_or_pos i with h0 | h0
          · have := hl0 h0; omega
          · omega), Bool.true_and]
      simp only [GV, frArgs, memArgs, resV, fillL, ← Bool.decide_or, ← Bool.decide_and, ← decide_not, ↓reduceIte, Nat.reduceEqDiff, Nat.reduceAdd, Nat.reduceMul, Nat.reduceLeDiff, Nat.reduceLT, Nat.reduceSub, Nat.succ_ne_zero, Nat.one_ne_zero, Nat.zero_ne_one, true_implies, false_implies, forall_const, implies_true, reduceCtorEq, eq_self, ite_true, ite_false, decide_true, decide_false, Nat.le_refl, Bool.false_eq_true, if_true, if_false, wrapn (show i < maxLen by omega)]
      exact ⟨l.length - (i + 1), by omega, i + 1, l[i], rfl, by omega, hr, by omega, fun _ => ⟨by omega, by simp [hlt]⟩, rfl⟩
  · have hr : risingB most 0 l = true := by rw [← hp, List.drop_eq_nil_of_le (by omega)]; rfl
    simp only [GV, frArgs, memArgs, resV, fillL, ← Bool.decide_or, ← Bool.decide_and, ← decide_not, ↓reduceIte, Nat.reduceEqDiff, Nat.reduceAdd, Nat.reduceMul, Nat.reduceLeDiff, Nat.reduceLT, Nat.reduceSub, Nat.succ_ne_zero, Nat.one_ne_zero, Nat.zero_ne_one, true_implies, false_implies, forall_const, implies_true, reduceCtorEq, eq_self, ite_true, ite_false, decide_true, decide_false, Nat.le_refl, Bool.false_eq_true, if_true, if_false, hr]

theorem c_ExitR {gates : Nat} {v u : Value} {x : Exit} {G : GH} (hv : SlI G .i64 v x.to) (hu : SlI G .i64 u x.gates) : Pure 40 [.int .i64 gates, .agg #[v, u]] G (.int .i64 (exitErr gates x)) := by
  obtain ⟨to_, gs⟩ := x
  have hv' := hv
  obtain ⟨a, c, rfl, h1, h2, hrow⟩ := hv
  obtain ⟨a', c', rfl, h1', h2', hrow'⟩ := hu
  simp only at *
  refine acalls mixed k_ref12_Exit (by simp) fun F => ?_
  simp only [GV, frArgs, memArgs, resV, fillL, ← Bool.decide_or, ← Bool.decide_and, ← decide_not, ↓reduceIte, Nat.reduceEqDiff, Nat.reduceAdd, Nat.reduceMul, Nat.reduceLeDiff, Nat.reduceLT, Nat.reduceSub, Nat.succ_ne_zero, Nat.one_ne_zero, Nat.zero_ne_one, true_implies, false_implies, forall_const, implies_true, reduceCtorEq, eq_self, ite_true, ite_false, decide_true, decide_false, Nat.le_refl, Bool.false_eq_true, if_true, if_false]
  intro bx
  refine (c_Rising hv').mono ?_
  rintro o G1 Es hg ⟨rfl, rfl, rfl⟩
  simp only [GV, frArgs, memArgs, resV, fillL, ← Bool.decide_or, ← Bool.decide_and, ← decide_not, ↓reduceIte, Nat.reduceEqDiff, Nat.reduceAdd, Nat.reduceMul, Nat.reduceLeDiff, Nat.reduceLT, Nat.reduceSub, Nat.succ_ne_zero, Nat.one_ne_zero, Nat.zero_ne_one, true_implies, false_implies, forall_const, implies_true, reduceCtorEq, eq_self, ite_true, ite_false, decide_true, decide_false, Nat.le_refl, Bool.false_eq_true, if_true, if_false]
  refine cond_intro (fun h3 => ?_) (fun h3 => ?_)
  · have hr : risingB 13 0 to_ = false := by simpa using h3
    simp only [GV, frArgs, memArgs, resV, fillL, ← Bool.decide_or, ← Bool.decide_and, ← decide_not, ↓reduceIte, Nat.reduceEqDiff, Nat.reduceAdd, Nat.reduceMul, Nat.reduceLeDiff, Nat.reduceLT, Nat.reduceSub, Nat.succ_ne_zero, Nat.one_ne_zero, Nat.zero_ne_one, true_implies, false_implies, forall_const, implies_true, reduceCtorEq, eq_self, ite_true, ite_false, decide_true, decide_false, Nat.le_refl, Bool.false_eq_true, if_true, if_false, exitErr, hr]
  have hr : risingB 13 0 to_ = true := by simpa using h3
  simp only [GV, frArgs, memArgs, resV, fillL, ← Bool.decide_or, ← Bool.decide_and, ← decide_not, ↓reduceIte, Nat.reduceEqDiff, Nat.reduceAdd, Nat.reduceMul, Nat.reduceLeDiff, Nat.reduceLT, Nat.reduceSub, Nat.succ_ne_zero, Nat.one_ne_zero, Nat.zero_ne_one, true_implies, false_implies, forall_const, implies_true, reduceCtorEq, eq_self, ite_true, ite_false, decide_true, decide_false, Nat.le_refl, Bool.false_eq_true, if_true, if_false]
  refine cond_dec (fun h4 => ?_) (fun h4 => ?_)
  · simp only [GV, frArgs, memArgs, resV, fillL, ← Bool.decide_or, ← Bool.decide_and, ← decide_not, ↓reduceIte, Nat.reduceEqDiff, Nat.reduceAdd, Nat.reduceMul, Nat.reduceLeDiff, Nat.reduceLT, Nat.reduceSub, Nat.succ_ne_zero, Nat.one_ne_zero, Nat.zero_ne_one, true_implies, false_implies, forall_const, implies_true, reduceCtorEq, eq_self, ite_true, ite_false, decide_true, decide_false, Nat.le_refl, Bool.false_eq_true, if_true, if_false, exitErr, hr, if_pos (show 1024 < gs.length by omega)]
  simp only [GV, frArgs, memArgs, resV, fillL, ← Bool.decide_or, ← Bool.decide_and, ← decide_not, ↓reduceIte, Nat.reduceEqDiff, Nat.reduceAdd, Nat.reduceMul, Nat.reduceLeDiff, Nat.reduceLT, Nat.reduceSub, Nat.succ_ne_zero, Nat.one_ne_zero, Nat.zero_ne_one, true_implies, false_implies, forall_const, implies_true, reduceCtorEq, eq_self, ite_true, ite_false, decide_true, decide_false, Nat.le_refl, Bool.false_eq_true, if_true, if_false]
  refine loop_intro (fun n fr G' M => ∃ i : Nat, n = gs.length - i ∧ i ≤ gs.length ∧ (gs.drop i).any (fun g => decide (g < 0 ∨ (gates : Int) ≤ g)) = gs.any (fun g => decide (g < 0 ∨ (gates : Int) ≤ g)) ∧ G' = G1 ∧ fr = [(0, true, .int .i64 gates), (16, true, .slice a' gs.length c'), (17, true, .int .i64 gs.length), (18, true, .int .i64 i)] ∧
    M = [(103, [.var bx 56 [.slice a to_.length c, .slice a' gs.length c']]), (1000000, F)]) gs.length ⟨0, by simp, by simp, by simp, rfl, by simp, rfl⟩ ?_
  rintro n fr G2 M - ⟨i, rfl, hi, hp, rfl, rfl, rfl⟩
  simp only [GV, frArgs, memArgs, resV, fillL, ← Bool.decide_or, ← Bool.decide_and, ← decide_not, ↓reduceIte, Nat.reduceEqDiff, Nat.reduceAdd, Nat.reduceMul, Nat.reduceLeDiff, Nat.reduceLT, Nat.reduceSub, Nat.succ_ne_zero, Nat.one_ne_zero, Nat.zero_ne_one, true_implies, false_implies, forall_const, implies_true, reduceCtorEq, eq_self, ite_true, ite_false, decide_true, decide_false, Nat.le_refl, Bool.false_eq_true, if_true, if_false]
  refine cond_dec (fun h => ?_) (fun h => ?_)
  · have hlt : i < gs.length := by omega
    obtain ⟨b, o, rfl, hx⟩ := RowI.get hrow' hlt
    rw [List.drop_eq_getElem_cons hlt, List.any_cons] at hp
    simp only [GV, frArgs, memArgs, resV, fillL, ← Bool.decide_or, ← Bool.decide_and, ← decide_not, ↓reduceIte, Nat.reduceEqDiff, Nat.reduceAdd, Nat.reduceMul, Nat.reduceLeDiff, Nat.reduceLT, Nat.reduceSub, Nat.succ_ne_zero, Nat.one_ne_zero, Nat.zero_ne_one, true_implies, false_implies, forall_const, implies_true, reduceCtorEq, eq_self, ite_true, ite_false, decide_true, decide_false, Nat.le_refl, Bool.false_eq_true, if_true, if_false, hx, Nat.mul_one]
    refine ⟨by omega, cond_dec (fun h5 => ?_) (fun h5 => ?_)⟩
    · rw [decide_eq_true h5, Bool.true_or] at hp
      simp only [GV, frArgs, memArgs, resV, fillL, ← Bool.decide_or, ← Bool.decide_and, ← decide_not, ↓reduceIte, Nat.reduceEqDiff, Nat.reduceAdd, Nat.reduceMul, Nat.reduceLeDiff, Nat.reduceLT, Nat.reduceSub, Nat.succ_ne_zero, Nat.one_ne_zero, Nat.zero_ne_one, true_implies, false_implies, forall_const, implies_true, reduceCtorEq, eq_self, ite_true, ite_false, decide_true, decide_false, Nat.le_refl, Bool.false_eq_true, if_true, if_false, exitErr, hr, if_neg (show ¬ 1024 < gs.length by omega), ← hp]
    · rw [decide_eq_false h5, Bool.false_or] at hp
      simp only [GV, frArgs, memArgs, resV, fillL, ← Bool.decide_or, ← Bool.decide_and, ← decide_not, ↓reduceIte, Nat.reduceEqDiff, Nat.reduceAdd, Nat.reduceMul, Nat.reduceLeDiff, Nat.reduceLT, Nat.reduceSub, Nat.succ_ne_zero, Nat.one_ne_zero, Nat.zero_ne_one, true_implies, false_implies, forall_const, implies_true, reduceCtorEq, eq_self, ite_true, ite_false, decide_true, decide_false, Nat.le_refl, Bool.false_eq_true, if_true, if_false, wrapn (show i < maxLen by omega)]
      exact ⟨gs.length - (i + 1), by omega, i + 1, rfl, by omega, hp, rfl⟩
  · rw [List.drop_eq_nil_of_le (by omega), List.any_nil] at hp
    simp only [GV, frArgs, memArgs, resV, fillL, ← Bool.decide_or, ← Bool.decide_and, ← decide_not, ↓reduceIte, Nat.reduceEqDiff, Nat.reduceAdd, Nat.reduceMul, Nat.reduceLeDiff, Nat.reduceLT, Nat.reduceSub, Nat.succ_ne_zero, Nat.one_ne_zero, Nat.zero_ne_one, true_implies, false_implies, forall_const, implies_true, reduceCtorEq, eq_self, ite_true, ite_false, decide_true, decide_false, Nat.le_refl, Bool.false_eq_true, if_true, if_false, exitErr, hr, if_neg (show ¬ 1024 < gs.length by omega), ← hp]
end Go.Gv.W
