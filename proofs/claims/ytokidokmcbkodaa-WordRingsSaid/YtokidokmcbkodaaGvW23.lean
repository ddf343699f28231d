/-
  The specified errors. No condition.
-/
import Derived.Test.YtokidokmcbkodaaGvW22
namespace Go.Gv.W
set_option linter.unusedSimpArgs false
set_option linter.unusedVariables false
set_option linter.unusedSectionVars false
open Go.RowKit Go.Proofs

/-- junto/juntoref13.Places -/
def r_ref13_Places : RFn := ⟨23,
  .seq (.reg [] [
    ⟨(some 2), none, .box 102 39 (.t 0)⟩,
    ⟨(some 4), none, .mv (.c (.int .i64 0))⟩]) <|
  .keep [1, 2] <|
  .seq (.seq (.reg [] [
    ⟨(some 7), none, .mv (.t 1)⟩,
    ⟨(some 8), none, .len (.t 7)⟩,
    ⟨(some 9), none, .mv (.c (.int .i64 0))⟩]) <|
  .keep [2, 7, 8, 9] <|
  .block 0 <|
  .loop [2, 7, 8, 9] [102, 1000000] <|
  .seq (.reg [] [
    ⟨(some 10), none, .bin .lss (.t 9) (.t 8)⟩]) <|
  .keep [2, 7, 8, 9, 10] <|
  .seq (.cond (.t 10)
    (.skip)
    (.exit 0)) <|
  .keep [2, 7, 8, 9] <|
  .seq (.block 1 <|
  .seq (.reg [] [
    ⟨(some 11), none, .iad 1 (.t 7) (.t 9)⟩,
    ⟨(some 12), none, .ld none none (.t 11)⟩,
    ⟨(some 6), none, .mv (.t 12)⟩]) <|
  .keep [2, 6, 7, 8, 9] <|
  .seq (.reg [] [
    ⟨(some 13), none, .mv (.t 6)⟩,
    ⟨(some 14), none, .bin .lss (.t 13) (.c (.int .i64 0))⟩,
    ⟨(some 15), none, .mv (.t 14)⟩,
    ⟨(some 16), (some (15, false, true)), .mv (.t 6)⟩,
    ⟨(some 17), (some (15, false, true)), .fad 1 (.t 2)⟩,
    ⟨(some 18), (some (15, false, true)), .ld none (some (102, 0)) (.t 17)⟩,
    ⟨(some 19), (some (15, false, true)), .len (.t 18)⟩,
    ⟨(some 20), (some (15, false, true)), .bin .geq (.t 16) (.t 19)⟩,
    ⟨(some 21), none, .pick (.t 15) (.c (.bool true)) (.t 20)⟩]) <|
  .keep [2, 7, 8, 9, 21] <|
  .cond (.t 21)
    (.seq (.reg [] [
      ⟨(some 4), none, .mv (.c (.int .i64 13))⟩]) <|
    .ret)
    (.skip)) <|
  .keep [2, 7, 8, 9] <|
  .reg [] [
    ⟨(some 22), none, .bin .add (.t 9) (.c (.int .i64 1))⟩,
    ⟨(some 9), none, .mv (.t 22)⟩]) <|
  .keep [] <|
  .seq (.reg [] [
    ⟨(some 4), none, .mv (.c (.int .i64 0))⟩]) <|
  .ret,
  [.tmp 4], [], []⟩

theorem k_ref13_Places : rbFn Try.prog 19 r_ref13_Places = some r_ref13_Places := by kernel_rfl


theorem SlX.len {G : GH} {v : Value} {l : List Exit} (h : SlX G v l) : ∃ a c, v = .slice a l.length c := by
  obtain ⟨css, a, c, h1, _⟩ := h
  exact ⟨a, c, h1⟩
theorem CircV.mono {G G' : GH} {v : Value} {c : Circ} (h : CircV G v c) (hg : GLe G G') : CircV G' v c := by
  obtain ⟨v1, v2, v3, h0, h1, h2, h3⟩ := h
  exact ⟨v1, v2, v3, h0, h1.mono hg, h2.mono hg, h3.mono hg⟩
def refSlot (c : Circ) (x : Slot) : Int := if x.party < 1 ∨ 13 < x.party then 2 else if 256 ≤ c.slots.length ∨ 65536 ≤ c.gates.length then 3 else 0
def refGate (p : Nat) (c : Circ) (g : Gate) : Int := if gateErr p c.slots.length c.gates.length g ≠ 0 then gateErr p c.slots.length c.gates.length g else if 65536 ≤ c.gates.length then 3 else 0
def refExit (c : Circ) (x : Exit) : Int := if exitErr c.gates.length x ≠ 0 then exitErr c.gates.length x else if 4096 ≤ c.exits.length then 3 else 0
def outR (c : Circ) (i : Int) : Bool := decide (i < 0 ∨ (c.gates.length : Int) ≤ i)
def places (c : Circ) (l : List Int) : Int := if l.any (outR c) = true then 13 else 0
def refWord (c : Circ) (w : List Int) : Int := if badW w = true then 3 else places c w
def refWords (c : Circ) (v w : List Int) : Int := if (badW v || badW w) = true then 3 else if (v ++ w).any (outR c) = true then 13 else if v.length ≠ w.length then 2 else 0

set_option maxRecDepth 20000 in
theorem c_Places {v u : Value} {c : Circ} {l : List Int} {G : GH} (hv : CircV G v c) (hu : SlI G .i64 u l) : Pure 19 [v, u] G (.int .i64 (places c l)) := by
  obtain ⟨v1, v2, v3, rfl, ⟨a1, c1, rfl, hs1, hs2, hs⟩, ⟨a2, c2, rfl, hg1, hg2, hgt⟩, hx⟩ := hv
  obtain ⟨a3, c3, rfl⟩ := hx.len
  obtain ⟨au, cu, rfl, hu1, hu2, hrow⟩ := hu
  refine acalls mixed k_ref13_Places (by simp) fun F => ?_
  simp only [GV, frArgs, memArgs, resV, fillL, ← Bool.decide_or, ← Bool.decide_and, ← decide_not, ↓reduceIte, Nat.reduceEqDiff, Nat.reduceAdd, Nat.reduceMul, Nat.reduceLeDiff, Nat.reduceLT, Nat.reduceSub, Nat.succ_ne_zero, Nat.one_ne_zero, Nat.zero_ne_one, true_implies, false_implies, forall_const, implies_true, reduceCtorEq, eq_self, ite_true, ite_false, decide_true, decide_false, Nat.le_refl, Bool.false_eq_true, if_true, if_false]
  intro b1
  refine loop_intro (fun n fr G' M => ∃ i : Nat, n = l.length - i ∧ i ≤ l.length ∧ (l.drop i).any (outR c) = l.any (outR c) ∧ G' = G ∧ fr = [(2, true, .pointer (some ⟨b1, 0, none⟩)), (7, true, .slice au l.length cu), (8, true, .int .i64 l.length), (9, true, .int .i64 i)] ∧
    M = [(102, [.var b1 39 [.slice a1 c.slots.length c1, .slice a2 c.gates.length c2, .slice a3 c.exits.length c3]]), (1000000, F)]) l.length ⟨0, by simp, by simp, by simp, rfl, by simp, rfl⟩ ?_
  rintro n fr G1 M - ⟨i, rfl, hi, hp, rfl, rfl, rfl⟩
  simp only [GV, frArgs, memArgs, resV, fillL, ← Bool.decide_or, ← Bool.decide_and, ← decide_not, ↓reduceIte, Nat.reduceEqDiff, Nat.reduceAdd, Nat.reduceMul, Nat.reduceLeDiff, Nat.reduceLT, Nat.reduceSub, Nat.succ_ne_zero, Nat.one_ne_zero, Nat.zero_ne_one, true_implies, false_implies, forall_const, implies_true, reduceCtorEq, eq_self, ite_true, ite_false, decide_true, decide_false, Nat.le_refl, Bool.false_eq_true, if_true, if_false]
  refine cond_dec (fun h => ?_) (fun h => ?_)
  · have hlt : i < l.length := by omega
    obtain ⟨b, o, rfl, hx⟩ := RowI.get hrow hlt
    rw [List.drop_eq_getElem_cons hlt, List.any_cons] at hp
    simp only [GV, frArgs, memArgs, resV, fillL, ← Bool.decide_or, ← Bool.decide_and, ← decide_not, ↓reduceIte, Nat.reduceEqDiff, Nat.reduceAdd, Nat.reduceMul, Nat.reduceLeDiff, Nat.reduceLT, Nat.reduceSub, Nat.succ_ne_zero, Nat.one_ne_zero, Nat.zero_ne_one, true_implies, false_implies, forall_const, implies_true, reduceCtorEq, eq_self, ite_true, ite_false, decide_true, decide_false, Nat.le_refl, Bool.false_eq_true, if_true, if_false, hx, Nat.mul_one]
    refine ⟨by omega, ?_⟩
    refine cond_dec (fun h2 => ?_) (fun h2 => ?_)
    · have ho : outR c l[i] = true := decide_eq_true (by omega)
      rw [ho, Bool.true_or] at hp
      simp only [GV, frArgs, memArgs, resV, fillL, ← Bool.decide_or, ← Bool.decide_and, ← decide_not, ↓reduceIte, Nat.reduceEqDiff, Nat.reduceAdd, Nat.reduceMul, Nat.reduceLeDiff, Nat.reduceLT, Nat.reduceSub, Nat.succ_ne_zero, Nat.one_ne_zero, Nat.zero_ne_one, true_implies, false_implies, forall_const, implies_true, reduceCtorEq, eq_self, ite_true, ite_false, decide_true, decide_false, Nat.le_refl, Bool.false_eq_true, if_true, if_false, places, ← hp]
    · have ho : outR c l[i] = false := decide_eq_false (by omega)
      rw [ho, Bool.false_or] at hp
      simp only [GV, frArgs, memArgs, resV, fillL, ← Bool.decide_or, ← Bool.decide_and, ← decide_not, ↓reduceIte, Nat.reduceEqDiff, Nat.reduceAdd, Nat.reduceMul, Nat.reduceLeDiff, Nat.reduceLT, Nat.reduceSub, Nat.succ_ne_zero, Nat.one_ne_zero, Nat.zero_ne_one, true_implies, false_implies, forall_const, implies_true, reduceCtorEq, eq_self, ite_true, ite_false, decide_true, decide_false, Nat.le_refl, Bool.false_eq_true, if_true, if_false, wrapn (show i < maxLen by omega)]
      exact ⟨l.length - (i + 1), by omega, i + 1, rfl, by omega, hp, rfl⟩
  · rw [List.drop_eq_nil_of_le (by omega), List.any_nil] at hp
    simp only [GV, frArgs, memArgs, resV, fillL, ← Bool.decide_or, ← Bool.decide_and, ← decide_not, ↓reduceIte, Nat.reduceEqDiff, Nat.reduceAdd, Nat.reduceMul, Nat.reduceLeDiff, Nat.reduceLT, Nat.reduceSub, Nat.succ_ne_zero, Nat.one_ne_zero, Nat.zero_ne_one, true_implies, false_implies, forall_const, implies_true, reduceCtorEq, eq_self, ite_true, ite_false, decide_true, decide_false, Nat.le_refl, Bool.false_eq_true, if_true, if_false, places, ← hp]
end Go.Gv.W
