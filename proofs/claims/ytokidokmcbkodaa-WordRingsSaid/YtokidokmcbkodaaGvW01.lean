/-
  The arithmetic and the tests of numbers. No condition.
-/
import Derived.Test.YtokidokmcbkodaaGvAll
import Derived.Test.YtokidokmcbkodaaProg
namespace Go.Gv.W
set_option linter.unusedSimpArgs false
set_option linter.unusedVariables false
set_option linter.unusedSectionVars false
open Go.RowKit Go.Proofs
theorem mixed : Try.prog.follows .mixedOrders = true := by kernel_rfl

/-- A call that gives a value and touches nothing. -/
def Pure (f : FuncId) (args : List Value) (G : GH) (v : Value) : Prop := ACalls Try.prog f args G [] fun o G' Es => o = .ret v ∧ G' = G ∧ Es = []
theorem pure_of {f : FuncId} {args : List Value} {G : GH} {v : Value} (h : ACalls Try.prog f args G [] fun o _ Es => o = .ret v ∧ Es = []) : Pure f args G v :=
  h.forget.mono fun _ _ _ _ ⟨⟨h1, h2⟩, h3⟩ => ⟨h1, h3, h2⟩

/-- junto/juntoref01.Add -/
def r_ref01_Add : RFn := ⟨12,
  .seq (.reg [] [
    ⟨(some 6), none, .mv (.c (.int .u64 0))⟩]) <|
  .keep [0, 1, 2] <|
  .seq (.reg [] [
    ⟨(some 7), none, .mv (.t 1)⟩,
    ⟨(some 8), none, .mv (.t 2)⟩,
    ⟨(some 9), none, .bin .add (.t 7) (.t 8)⟩,
    ⟨(some 10), none, .mv (.t 0)⟩,
    ⟨(some 11), none, .bin .rem (.t 9) (.t 10)⟩,
    ⟨(some 6), none, .mv (.t 11)⟩]) <|
  .ret,
  [.tmp 6], [], []⟩

theorem k_ref01_Add : rbFn Try.prog 41 r_ref01_Add = some r_ref01_Add := by kernel_rfl

/-- junto/juntoref01.Sub -/
def r_ref01_Sub : RFn := ⟨14,
  .seq (.reg [] [
    ⟨(some 6), none, .mv (.c (.int .u64 0))⟩]) <|
  .keep [0, 1, 2] <|
  .seq (.reg [] [
    ⟨(some 7), none, .mv (.t 1)⟩,
    ⟨(some 8), none, .mv (.t 0)⟩,
    ⟨(some 9), none, .bin .add (.t 7) (.t 8)⟩,
    ⟨(some 10), none, .mv (.t 2)⟩,
    ⟨(some 11), none, .bin .sub (.t 9) (.t 10)⟩,
    ⟨(some 12), none, .mv (.t 0)⟩,
    ⟨(some 13), none, .bin .rem (.t 11) (.t 12)⟩,
    ⟨(some 6), none, .mv (.t 13)⟩]) <|
  .ret,
  [.tmp 6], [], []⟩

theorem k_ref01_Sub : rbFn Try.prog 42 r_ref01_Sub = some r_ref01_Sub := by kernel_rfl

/-- junto/juntoref01.Mul -/
def r_ref01_Mul : RFn := ⟨12,
  .seq (.reg [] [
    ⟨(some 6), none, .mv (.c (.int .u64 0))⟩]) <|
  .keep [0, 1, 2] <|
  .seq (.reg [] [
    ⟨(some 7), none, .mv (.t 1)⟩,
    ⟨(some 8), none, .mv (.t 2)⟩,
    ⟨(some 9), none, .bin .mul (.t 7) (.t 8)⟩,
    ⟨(some 10), none, .mv (.t 0)⟩,
    ⟨(some 11), none, .bin .rem (.t 9) (.t 10)⟩,
    ⟨(some 6), none, .mv (.t 11)⟩]) <|
  .ret,
  [.tmp 6], [], []⟩

theorem k_ref01_Mul : rbFn Try.prog 43 r_ref01_Mul = some r_ref01_Mul := by kernel_rfl

/-- junto/juntoref01.Is -/
def r_ref01_Is : RFn := ⟨21,
  .seq (.reg [] [
    ⟨(some 2), none, .mv (.c (.bool false))⟩]) <|
  .keep [0] <|
  .seq (.seq (.reg [] [
    ⟨(some 4), none, .mv (.t 0)⟩,
    ⟨(some 5), none, .bin .lss (.t 4) (.c (.int .u64 3))⟩,
    ⟨(some 6), none, .mv (.t 5)⟩,
    ⟨(some 7), (some (6, false, true)), .mv (.t 0)⟩,
    ⟨(some 8), (some (6, false, true)), .bin .gtr (.t 7) (.c (.int .u64 65537))⟩,
    ⟨(some 9), none, .pick (.t 6) (.c (.bool true)) (.t 8)⟩]) <|
  .keep [0, 9] <|
  .cond (.t 9)
    (.seq (.reg [] [
      ⟨(some 2), none, .mv (.c (.bool false))⟩]) <|
    .ret)
    (.skip)) <|
  .keep [0] <|
  .seq (.seq (.reg [] [
    ⟨(some 3), none, .mv (.c (.int .u64 2))⟩]) <|
  .keep [0, 3] <|
  .block 0 <|
  .loop [0, 3] [1000000] <|
  .seq (.seq (.reg [] [
    ⟨(some 10), none, .mv (.t 3)⟩,
    ⟨(some 11), none, .mv (.t 3)⟩,
    ⟨(some 12), none, .bin .mul (.t 10) (.t 11)⟩,
    ⟨(some 13), none, .mv (.t 0)⟩,
    ⟨(some 14), none, .bin .leq (.t 12) (.t 13)⟩]) <|
  .keep [0, 3, 14] <|
  .cond (.t 14)
    (.skip)
    (.exit 0)) <|
  .keep [0, 3] <|
  .seq (.block 1 <|
  .seq (.reg [] [
    ⟨(some 17), none, .mv (.t 0)⟩,
    ⟨(some 18), none, .mv (.t 3)⟩,
    ⟨(some 19), none, .bin .rem (.t 17) (.t 18)⟩,
    ⟨(some 20), none, .bin .eql (.t 19) (.c (.int .u64 0))⟩]) <|
  .keep [0, 3, 20] <|
  .cond (.t 20)
    (.seq (.reg [] [
      ⟨(some 2), none, .mv (.c (.bool false))⟩]) <|
    .ret)
    (.skip)) <|
  .keep [0, 3] <|
  .reg [] [
    ⟨(some 15), none, .mv (.t 3)⟩,
    ⟨(some 16), none, .bin .add (.t 15) (.c (.int .u64 1))⟩,
    ⟨(some 3), none, .mv (.t 16)⟩]) <|
  .keep [] <|
  .seq (.reg [] [
    ⟨(some 2), none, .mv (.c (.bool true))⟩]) <|
  .ret,
  [.tmp 2], [], []⟩

theorem k_ref01_Is : rbFn Try.prog 38 r_ref01_Is = some r_ref01_Is := by kernel_rfl

/-- junto/field.Is -/
def r_field_Is : RFn := ⟨26,
  .seq (.reg [] [
    ⟨(some 2), none, .mv (.c (.bool false))⟩]) <|
  .keep [0] <|
  .seq (.seq (.reg [] [
    ⟨(some 4), none, .mv (.t 0)⟩,
    ⟨(some 5), none, .bin .lss (.t 4) (.c (.int .u64 3))⟩,
    ⟨(some 6), none, .mv (.t 5)⟩,
    ⟨(some 7), (some (6, false, true)), .mv (.t 0)⟩,
    ⟨(some 8), (some (6, false, true)), .bin .gtr (.t 7) (.c (.int .u64 65537))⟩,
    ⟨(some 9), none, .pick (.t 6) (.c (.bool true)) (.t 8)⟩,
    ⟨(some 10), none, .mv (.t 9)⟩,
    ⟨(some 11), (some (10, false, true)), .mv (.t 0)⟩,
    ⟨(some 12), (some (10, false, true)), .bin .rem (.t 11) (.c (.int .u64 2))⟩,
    ⟨(some 13), (some (10, false, true)), .bin .eql (.t 12) (.c (.int .u64 0))⟩,
    ⟨(some 14), none, .pick (.t 10) (.c (.bool true)) (.t 13)⟩]) <|
  .keep [0, 14] <|
  .cond (.t 14)
    (.seq (.reg [] [
      ⟨(some 2), none, .mv (.c (.bool false))⟩]) <|
    .ret)
    (.skip)) <|
  .keep [0] <|
  .seq (.seq (.reg [] [
    ⟨(some 3), none, .mv (.c (.int .u64 3))⟩]) <|
  .keep [0, 3] <|
  .block 0 <|
  .loop [0, 3] [1000000] <|
  .seq (.seq (.reg [] [
    ⟨(some 15), none, .mv (.t 3)⟩,
    ⟨(some 16), none, .mv (.t 3)⟩,
    ⟨(some 17), none, .bin .mul (.t 15) (.t 16)⟩,
    ⟨(some 18), none, .mv (.t 0)⟩,
    ⟨(some 19), none, .bin .leq (.t 17) (.t 18)⟩]) <|
  .keep [0, 3, 19] <|
  .cond (.t 19)
    (.skip)
    (.exit 0)) <|
  .keep [0, 3] <|
  .seq (.block 1 <|
  .seq (.reg [] [
    ⟨(some 22), none, .mv (.t 0)⟩,
    ⟨(some 23), none, .mv (.t 3)⟩,
    ⟨(some 24), none, .bin .rem (.t 22) (.t 23)⟩,
    ⟨(some 25), none, .bin .eql (.t 24) (.c (.int .u64 0))⟩]) <|
  .keep [0, 3, 25] <|
  .cond (.t 25)
    (.seq (.reg [] [
      ⟨(some 2), none, .mv (.c (.bool false))⟩]) <|
    .ret)
    (.skip)) <|
  .keep [0, 3] <|
  .reg [] [
    ⟨(some 20), none, .mv (.t 3)⟩,
    ⟨(some 21), none, .bin .add (.t 20) (.c (.int .u64 2))⟩,
    ⟨(some 3), none, .mv (.t 21)⟩]) <|
  .keep [] <|
  .seq (.reg [] [
    ⟨(some 2), none, .mv (.c (.bool true))⟩]) <|
  .ret,
  [.tmp 2], [], []⟩

theorem k_field_Is : rbFn Try.prog 23 r_field_Is = some r_field_Is := by kernel_rfl

/-- junto/juntoref13.Number -/
def r_ref13_Number : RFn := ⟨25,
  .seq (.reg [] [
    ⟨(some 4), none, .mv (.c (.int .u64 0))⟩]) <|
  .keep [0, 1] <|
  .seq (.reg [] [
    ⟨(some 5), none, .mv (.c (.int .u64 0))⟩]) <|
  .keep [0, 1, 5] <|
  .seq (.seq (.reg [] [
    ⟨(some 8), none, .mv (.t 1)⟩,
    ⟨(some 9), none, .len (.t 8)⟩,
    ⟨(some 10), none, .mv (.c (.int .i64 0))⟩]) <|
  .keep [0, 5, 8, 9, 10] <|
  .block 0 <|
  .loop [0, 5, 8, 9, 10] [1000000] <|
  .seq (.reg [] [
    ⟨(some 11), none, .bin .lss (.t 10) (.t 9)⟩]) <|
  .keep [0, 5, 8, 9, 10, 11] <|
  .seq (.cond (.t 11)
    (.skip)
    (.exit 0)) <|
  .keep [0, 5, 8, 9, 10] <|
  .seq (.block 1 <|
  .seq (.reg [] [
    ⟨(some 12), none, .mv (.t 10)⟩,
    ⟨(some 13), none, .iad 1 (.t 8) (.t 10)⟩,
    ⟨(some 14), none, .ld none none (.t 13)⟩,
    ⟨(some 6), none, .mv (.t 12)⟩,
    ⟨(some 7), none, .mv (.t 14)⟩]) <|
  .keep [0, 5, 6, 7, 8, 9, 10] <|
  .reg [] [
    ⟨(some 15), none, .mv (.t 5)⟩,
    ⟨(some 16), none, .mv (.t 0)⟩,
    ⟨(some 17), none, .mv (.t 7)⟩,
    ⟨(some 18), none, .iad 1 (.t 16) (.t 17)⟩,
    ⟨(some 19), none, .ld none none (.t 18)⟩,
    ⟨(some 20), none, .mv (.t 6)⟩,
    ⟨(some 21), none, .bin .shl (.t 19) (.t 20)⟩,
    ⟨(some 22), none, .bin .add (.t 15) (.t 21)⟩,
    ⟨(some 5), none, .mv (.t 22)⟩]) <|
  .keep [0, 5, 8, 9, 10] <|
  .reg [] [
    ⟨(some 23), none, .bin .add (.t 10) (.c (.int .i64 1))⟩,
    ⟨(some 10), none, .mv (.t 23)⟩]) <|
  .keep [5] <|
  .seq (.reg [] [
    ⟨(some 24), none, .mv (.t 5)⟩,
    ⟨(some 4), none, .mv (.t 24)⟩]) <|
  .ret,
  [.tmp 4], [], []⟩

theorem k_ref13_Number : rbFn Try.prog 32 r_ref13_Number = some r_ref13_Number := by kernel_rfl


theorem wrapu {x : Int} (h0 : 0 ≤ x) (h1 : x ≤ 18446744073709551615) : IntKind.u64.wrap x = x := by rw [IntKind.wrap_u64]; omega
theorem tmodn (x p : Nat) : (x : Int).tmod (p : Int) = ((x % p : Nat) : Int) := by rw [Int.tmod_eq_emod_of_nonneg (by omega)]; rfl
theorem c_Add {p x y : Nat} {G : GH} (hp : p ≠ 0) (h : x + y < 2 ^ 64) : Pure 41 [.int .u64 p, .int .u64 x, .int .u64 y] G (.int .u64 ((x + y) % p : Nat)) := by
  refine acalls mixed k_ref01_Add (by simp) fun F => ?_
  have hw : IntKind.u64.wrap ((x : Int) + (y : Int)) = ((x + y : Nat) : Int) := by rw [wrapu] <;> omega
  simp only [GV, frArgs, memArgs, resV, fillL, ← Bool.decide_or, ← Bool.decide_and, ← decide_not, ↓reduceIte, Nat.reduceEqDiff, Nat.reduceAdd, Nat.reduceMul, Nat.reduceLeDiff, Nat.reduceLT, Nat.reduceSub, Nat.succ_ne_zero, Nat.one_ne_zero, Nat.zero_ne_one, true_implies, false_implies, forall_const, implies_true, reduceCtorEq, eq_self, ite_true, ite_false, decide_true, decide_false, Nat.le_refl, Bool.false_eq_true, if_true, if_false, hw, tmodn]
  omega
theorem c_Sub {p x y : Nat} {G : GH} (hp : p ≠ 0) (h : x + p < 2 ^ 64) (hy : y ≤ x + p) : Pure 42 [.int .u64 p, .int .u64 x, .int .u64 y] G (.int .u64 ((x + p - y) % p : Nat)) := by
  refine acalls mixed k_ref01_Sub (by simp) fun F => ?_
  have hw : IntKind.u64.wrap ((x : Int) + (p : Int)) = ((x + p : Nat) : Int) := by rw [wrapu] <;> omega
  have hw2 : IntKind.u64.wrap (((x + p : Nat) : Int) - (y : Int)) = ((x + p - y : Nat) : Int) := by rw [wrapu] <;> omega
  simp only [GV, frArgs, memArgs, resV, fillL, ← Bool.decide_or, ← Bool.decide_and, ← decide_not, ↓reduceIte, Nat.reduceEqDiff, Nat.reduceAdd, Nat.reduceMul, Nat.reduceLeDiff, Nat.reduceLT, Nat.reduceSub, Nat.succ_ne_zero, Nat.one_ne_zero, Nat.zero_ne_one, true_implies, false_implies, forall_const, implies_true, reduceCtorEq, eq_self, ite_true, ite_false, decide_true, decide_false, Nat.le_refl, Bool.false_eq_true, if_true, if_false, hw, hw2, tmodn]
  omega
theorem c_Mul {p x y : Nat} {G : GH} (hp : p ≠ 0) (h : x * y < 2 ^ 64) : Pure 43 [.int .u64 p, .int .u64 x, .int .u64 y] G (.int .u64 (x * y % p : Nat)) := by
  refine acalls mixed k_ref01_Mul (by simp) fun F => ?_
  have hw : IntKind.u64.wrap ((x : Int) * (y : Int)) = ((x * y : Nat) : Int) := by rw [← Int.natCast_mul, wrapu] <;> omega
  simp only [GV, frArgs, memArgs, resV, fillL, ← Bool.decide_or, ← Bool.decide_and, ← decide_not, ↓reduceIte, Nat.reduceEqDiff, Nat.reduceAdd, Nat.reduceMul, Nat.reduceLeDiff, Nat.reduceLT, Nat.reduceSub, Nat.succ_ne_zero, Nat.one_ne_zero, Nat.zero_ne_one, true_implies, false_implies, forall_const, implies_true, reduceCtorEq, eq_self, ite_true, ite_false, decide_true, decide_false, Nat.le_refl, Bool.false_eq_true, if_true, if_false, hw, tmodn]
  omega

/-- A prime from 3 to 65537. -/
def isP (p : Nat) : Bool := decide (3 ≤ p ∧ p ≤ 65537) && (List.range 257).all fun d => decide (d < 2 ∨ p < d * d ∨ p % d ≠ 0)
theorem sq_lt {d : Nat} (h : d * d ≤ 65537) : d < 257 := by
  rcases Nat.lt_or_ge d 257 with h1 | h1
  · exact h1
  · have := Nat.mul_le_mul h1 h1; omega
theorem isP_no {p d : Nat} (h2 : 2 ≤ d) (hd : d * d ≤ p) (hp : p ≤ 65537) (hm : p % d = 0) : isP p = false := by
  have h1 : ¬ (isP p = true) := by
    intro h
    simp only [isP, Bool.and_eq_true, List.all_eq_true, List.mem_range, decide_eq_true_eq] at h
    have := h.2 d (sq_lt (by omega))
    omega
  simpa using h1
theorem isP_yes {p d : Nat} (h3 : 3 ≤ p) (hp : p ≤ 65537) (hd : p < d * d) (hall : ∀ e, 2 ≤ e → e < d → p % e ≠ 0) : isP p = true := by
  simp only [isP, Bool.and_eq_true, List.all_eq_true, List.mem_range, decide_eq_true_eq]
  refine ⟨⟨h3, hp⟩, fun e _ => ?_⟩
  rcases Nat.lt_or_ge e 2 with h2 | h2
  · exact .inl h2
  · rcases Nat.lt_or_ge e d with h4 | h4
    · exact .inr (.inr (hall e h2 h4))
    · exact .inr (.inl (Nat.lt_of_lt_of_le hd (Nat.mul_le_mul h4 h4)))
theorem isP_out {p : Nat} (h : p < 3 ∨ 65537 < p) : isP p = false := by
  have : ¬ (3 ≤ p ∧ p ≤ 65537) := by omega
  simp [isP, this]
theorem c_Is01 {p : Nat} {G : GH} : Pure 38 [.int .u64 p] G (.bool (isP p)) := by
  refine acalls mixed k_ref01_Is (by simp) fun F => ?_
  simp only [GV, frArgs, memArgs, resV, fillL, ← Bool.decide_or, ← Bool.decide_and, ← decide_not, ↓reduceIte, Nat.reduceEqDiff, Nat.reduceAdd, Nat.reduceMul, Nat.reduceLeDiff, Nat.reduceLT, Nat.reduceSub, Nat.succ_ne_zero, Nat.one_ne_zero, Nat.zero_ne_one, true_implies, false_implies, forall_const, implies_true, reduceCtorEq, eq_self, ite_true, ite_false, decide_true, decide_false, Nat.le_refl, Bool.false_eq_true, if_true, if_false]
  refine cond_dec (fun h => ?_) (fun h => ?_)
  · simp only [GV, frArgs, memArgs, resV, fillL, ← Bool.decide_or, ← Bool.decide_and, ← decide_not, ↓reduceIte, Nat.reduceEqDiff, Nat.reduceAdd, Nat.reduceMul, Nat.reduceLeDiff, Nat.reduceLT, Nat.reduceSub, Nat.succ_ne_zero, Nat.one_ne_zero, Nat.zero_ne_one, true_implies, false_implies, forall_const, implies_true, reduceCtorEq, eq_self, ite_true, ite_false, decide_true, decide_false, Nat.le_refl, Bool.false_eq_true, if_true, if_false]
    rw [isP_out (by omega)]
  · simp only [GV, frArgs, memArgs, resV, fillL, ← Bool.decide_or, ← Bool.decide_and, ← decide_not, ↓reduceIte, Nat.reduceEqDiff, Nat.reduceAdd, Nat.reduceMul, Nat.reduceLeDiff, Nat.reduceLT, Nat.reduceSub, Nat.succ_ne_zero, Nat.one_ne_zero, Nat.zero_ne_one, true_implies, false_implies, forall_const, implies_true, reduceCtorEq, eq_self, ite_true, ite_false, decide_true, decide_false, Nat.le_refl, Bool.false_eq_true, if_true, if_false]
    refine loop_intro (fun n fr G' M => ∃ d : Nat, n = 300 - d ∧ 2 ≤ d ∧ d ≤ 257 ∧ (∀ e, 2 ≤ e → e < d → p % e ≠ 0) ∧ G' = G ∧ fr = [(0, true, .int .u64 p), (3, true, .int .u64 d)] ∧ M = [(1000000, F)]) 298 ⟨2, rfl, by omega, by omega, by omega, rfl, rfl, rfl⟩ ?_
    rintro n fr G1 M - ⟨d, rfl, h2, h257, hall, rfl, rfl, rfl⟩
    have hdd : d * d ≤ 257 * 257 := Nat.mul_le_mul h257 h257
    have hmul : ((d : Int) * (d : Int)) = ((d * d : Nat) : Int) := by simp
    have hw : IntKind.u64.wrap ((d : Int) * (d : Int)) = ((d * d : Nat) : Int) := by rw [hmul, wrapu] <;> omega
    simp only [GV, frArgs, memArgs, resV, fillL, ← Bool.decide_or, ← Bool.decide_and, ← decide_not, ↓reduceIte, Nat.reduceEqDiff, Nat.reduceAdd, Nat.reduceMul, Nat.reduceLeDiff, Nat.reduceLT, Nat.reduceSub, Nat.succ_ne_zero, Nat.one_ne_zero, Nat.zero_ne_one, true_implies, false_implies, forall_const, implies_true, reduceCtorEq, eq_self, ite_true, ite_false, decide_true, decide_false, Nat.le_refl, Bool.false_eq_true, if_true, if_false, hw]
    refine cond_dec (fun h1 => ?_) (fun h1 => ?_)
    · have hd := sq_lt (show d * d ≤ 65537 by omega)
      have hm : (p : Int).tmod (d : Int) = ((p % d : Nat) : Int) := by rw [Int.tmod_eq_emod_of_nonneg (by omega)]; rfl
      simp only [GV, frArgs, memArgs, resV, fillL, ← Bool.decide_or, ← Bool.decide_and, ← decide_not, ↓reduceIte, Nat.reduceEqDiff, Nat.reduceAdd, Nat.reduceMul, Nat.reduceLeDiff, Nat.reduceLT, Nat.reduceSub, Nat.succ_ne_zero, Nat.one_ne_zero, Nat.zero_ne_one, true_implies, false_implies, forall_const, implies_true, reduceCtorEq, eq_self, ite_true, ite_false, decide_true, decide_false, Nat.le_refl, Bool.false_eq_true, if_true, if_false, hm]
      refine ⟨by omega, cond_dec (fun h4 => ?_) (fun h4 => ?_)⟩
      · simp only [GV, frArgs, memArgs, resV, fillL, ← Bool.decide_or, ← Bool.decide_and, ← decide_not, ↓reduceIte, Nat.reduceEqDiff, Nat.reduceAdd, Nat.reduceMul, Nat.reduceLeDiff, Nat.reduceLT, Nat.reduceSub, Nat.succ_ne_zero, Nat.one_ne_zero, Nat.zero_ne_one, true_implies, false_implies, forall_const, implies_true, reduceCtorEq, eq_self, ite_true, ite_false, decide_true, decide_false, Nat.le_refl, Bool.false_eq_true, if_true, if_false]
        rw [isP_no h2 (by omega) (by omega) (by omega)]
      · have hw1 : IntKind.u64.wrap ((d : Int) + 1) = ((d + 1 : Nat) : Int) := by rw [wrapu] <;> omega
        simp only [GV, frArgs, memArgs, resV, fillL, ← Bool.decide_or, ← Bool.decide_and, ← decide_not, ↓reduceIte, Nat.reduceEqDiff, Nat.reduceAdd, Nat.reduceMul, Nat.reduceLeDiff, Nat.reduceLT, Nat.reduceSub, Nat.succ_ne_zero, Nat.one_ne_zero, Nat.zero_ne_one, true_implies, false_implies, forall_const, implies_true, reduceCtorEq, eq_self, ite_true, ite_false, decide_true, decide_false, Nat.le_refl, Bool.false_eq_true, if_true, if_false, hw1]
        refine ⟨300 - (d + 1), by omega, d + 1, rfl, by omega, by omega, fun e he hlt => ?_, rfl⟩
        rcases Nat.lt_succ_iff_lt_or_eq.1 hlt with h5 | rfl
        · exact hall e he h5
        · omega
    · simp only [GV, frArgs, memArgs, resV, fillL, ← Bool.decide_or, ← Bool.decide_and, ← decide_not, ↓reduceIte, Nat.reduceEqDiff, Nat.reduceAdd, Nat.reduceMul, Nat.reduceLeDiff, Nat.reduceLT, Nat.reduceSub, Nat.succ_ne_zero, Nat.one_ne_zero, Nat.zero_ne_one, true_implies, false_implies, forall_const, implies_true, reduceCtorEq, eq_self, ite_true, ite_false, decide_true, decide_false, Nat.le_refl, Bool.false_eq_true, if_true, if_false]
      rw [isP_yes (by omega) (by omega) (by omega) hall]
theorem c_IsF {p : Nat} {G : GH} : Pure 23 [.int .u64 p] G (.bool (isP p)) := by
  refine acalls mixed k_field_Is (by simp) fun F => ?_
  have hm2 : (p : Int).tmod 2 = ((p % 2 : Nat) : Int) := by rw [Int.tmod_eq_emod_of_nonneg (by omega)]; rfl
  simp only [GV, frArgs, memArgs, resV, fillL, ← Bool.decide_or, ← Bool.decide_and, ← decide_not, ↓reduceIte, Nat.reduceEqDiff, Nat.reduceAdd, Nat.reduceMul, Nat.reduceLeDiff, Nat.reduceLT, Nat.reduceSub, Nat.succ_ne_zero, Nat.one_ne_zero, Nat.zero_ne_one, true_implies, false_implies, forall_const, implies_true, reduceCtorEq, eq_self, ite_true, ite_false, decide_true, decide_false, Nat.le_refl, Bool.false_eq_true, if_true, if_false, hm2]
  refine ⟨by simp, cond_dec (fun h => ?_) (fun h => ?_)⟩
  · simp only [GV, frArgs, memArgs, resV, fillL, ← Bool.decide_or, ← Bool.decide_and, ← decide_not, ↓reduceIte, Nat.reduceEqDiff, Nat.reduceAdd, Nat.reduceMul, Nat.reduceLeDiff, Nat.reduceLT, Nat.reduceSub, Nat.succ_ne_zero, Nat.one_ne_zero, Nat.zero_ne_one, true_implies, false_implies, forall_const, implies_true, reduceCtorEq, eq_self, ite_true, ite_false, decide_true, decide_false, Nat.le_refl, Bool.false_eq_true, if_true, if_false]
    rcases (show (p < 3 ∨ 65537 < p) ∨ (p % 2 = 0 ∧ 4 ≤ p ∧ p ≤ 65537) by omega) with h1 | ⟨h1, h4, h6⟩
    · rw [isP_out h1]
    · rw [isP_no (d := 2) (by omega) (by omega) (by omega) h1]
  · simp only [GV, frArgs, memArgs, resV, fillL, ← Bool.decide_or, ← Bool.decide_and, ← decide_not, ↓reduceIte, Nat.reduceEqDiff, Nat.reduceAdd, Nat.reduceMul, Nat.reduceLeDiff, Nat.reduceLT, Nat.reduceSub, Nat.succ_ne_zero, Nat.one_ne_zero, Nat.zero_ne_one, true_implies, false_implies, forall_const, implies_true, reduceCtorEq, eq_self, ite_true, ite_false, decide_true, decide_false, Nat.le_refl, Bool.false_eq_true, if_true, if_false]
    refine loop_intro (fun n fr G' M => ∃ d : Nat, n = 300 - d ∧ 3 ≤ d ∧ d ≤ 258 ∧ d % 2 = 1 ∧ (∀ e, 2 ≤ e → e < d → p % e ≠ 0) ∧ G' = G ∧ fr = [(0, true, .int .u64 p), (3, true, .int .u64 d)] ∧ M = [(1000000, F)]) 297 ⟨3, rfl, by omega, by omega, by omega, fun e h2 h3 => (by rw [show e = 2 by omega]; omega), rfl, rfl, rfl⟩ ?_
    rintro n fr G1 M - ⟨d, rfl, h2, h257, hodd, hall, rfl, rfl, rfl⟩
    have hdd : d * d ≤ 258 * 258 := Nat.mul_le_mul h257 h257
    have hmul : ((d : Int) * (d : Int)) = ((d * d : Nat) : Int) := by simp
    have hw : IntKind.u64.wrap ((d : Int) * (d : Int)) = ((d * d : Nat) : Int) := by rw [hmul, wrapu] <;> omega
    simp only [GV, frArgs, memArgs, resV, fillL, ← Bool.decide_or, ← Bool.decide_and, ← decide_not, ↓reduceIte, Nat.reduceEqDiff, Nat.reduceAdd, Nat.reduceMul, Nat.reduceLeDiff, Nat.reduceLT, Nat.reduceSub, Nat.succ_ne_zero, Nat.one_ne_zero, Nat.zero_ne_one, true_implies, false_implies, forall_const, implies_true, reduceCtorEq, eq_self, ite_true, ite_false, decide_true, decide_false, Nat.le_refl, Bool.false_eq_true, if_true, if_false, hw]
    refine cond_dec (fun h1 => ?_) (fun h1 => ?_)
    · have hd := sq_lt (show d * d ≤ 65537 by omega)
      have hm : (p : Int).tmod (d : Int) = ((p % d : Nat) : Int) := by rw [Int.tmod_eq_emod_of_nonneg (by omega)]; rfl
      simp only [GV, frArgs, memArgs, resV, fillL, ← Bool.decide_or, ← Bool.decide_and, ← decide_not, ↓reduceIte, Nat.reduceEqDiff, Nat.reduceAdd, Nat.reduceMul, Nat.reduceLeDiff, Nat.reduceLT, Nat.reduceSub, Nat.succ_ne_zero, Nat.one_ne_zero, Nat.zero_ne_one, true_implies, false_implies, forall_const, implies_true, reduceCtorEq, eq_self, ite_true, ite_false, decide_true, decide_false, Nat.le_refl, Bool.false_eq_true, if_true, if_false, hm]
      refine ⟨by omega, cond_dec (fun h4 => ?_) (fun h4 => ?_)⟩
      · simp only [GV, frArgs, memArgs, resV, fillL, ← Bool.decide_or, ← Bool.decide_and, ← decide_not, ↓reduceIte, Nat.reduceEqDiff, Nat.reduceAdd, Nat.reduceMul, Nat.reduceLeDiff, Nat.reduceLT, Nat.reduceSub, Nat.succ_ne_zero, Nat.one_ne_zero, Nat.zero_ne_one, true_implies, false_implies, forall_const, implies_true, reduceCtorEq, eq_self, ite_true, ite_false, decide_true, decide_false, Nat.le_refl, Bool.false_eq_true, if_true, if_false]
        rw [isP_no (d := d) (by omega) (by omega) (by omega) (by omega)]
      · have hw1 : IntKind.u64.wrap ((d : Int) + 2) = ((d + 2 : Nat) : Int) := by rw [wrapu] <;> omega
        simp only [GV, frArgs, memArgs, resV, fillL, ← Bool.decide_or, ← Bool.decide_and, ← decide_not, ↓reduceIte, Nat.reduceEqDiff, Nat.reduceAdd, Nat.reduceMul, Nat.reduceLeDiff, Nat.reduceLT, Nat.reduceSub, Nat.succ_ne_zero, Nat.one_ne_zero, Nat.zero_ne_one, true_implies, false_implies, forall_const, implies_true, reduceCtorEq, eq_self, ite_true, ite_false, decide_true, decide_false, Nat.le_refl, Bool.false_eq_true, if_true, if_false, hw1]
        refine ⟨300 - (d + 2), by omega, d + 2, rfl, by omega, by omega, by omega, fun e he hlt => ?_, rfl⟩
        rcases (show e < d ∨ e = d ∨ e = d + 1 by omega) with h5 | rfl | rfl
        · exact hall e he h5
        · omega
        · intro h0
          have h7 : p % 2 = 0 := by
            obtain ⟨k, hk⟩ := Nat.dvd_of_mod_eq_zero h0
            obtain ⟨q, hq⟩ : ∃ q, d + 1 = 2 * q := ⟨(d + 1) / 2, by omega⟩
            rw [hk, hq, Nat.mul_assoc]; exact Nat.mul_mod_right 2 _
          omega
    · simp only [GV, frArgs, memArgs, resV, fillL, ← Bool.decide_or, ← Bool.decide_and, ← decide_not, ↓reduceIte, Nat.reduceEqDiff, Nat.reduceAdd, Nat.reduceMul, Nat.reduceLeDiff, Nat.reduceLT, Nat.reduceSub, Nat.succ_ne_zero, Nat.one_ne_zero, Nat.zero_ne_one, true_implies, false_implies, forall_const, implies_true, reduceCtorEq, eq_self, ite_true, ite_false, decide_true, decide_false, Nat.le_refl, Bool.false_eq_true, if_true, if_false]
      rw [isP_yes (d := d) (by omega) (by omega) (by omega) hall]

/-- The value at a place. -/
def at0 (vs : List Nat) (k : Int) : Nat := vs.getD k.toNat 0
theorem RowN.at {G : GH} {a : Option Addr} {vs : List Nat} {k : Int} (h : Row G 1 a (encN vs)) (h0 : 0 ≤ k) (h1 : k < vs.length) : ∃ b o, a = some ⟨b, o, none⟩ ∧ G b (o + k.toNat) = some (.int .u64 (at0 vs k : Nat)) := by
  have hlt : k.toNat < vs.length := by omega
  obtain ⟨b, o, e, hx⟩ := RowN.get h hlt
  exact ⟨b, o, e, by rw [hx]; simp [at0, hlt]⟩

/-- The number whose bits are the values at some places. -/
def numAt (vs : List Nat) : Nat → List Int → Nat → Nat
  | _, [], acc => acc
  | i, k :: r, acc => numAt vs (i + 1) r ((acc + at0 vs k * 2 ^ i % 2 ^ 64) % 2 ^ 64)
theorem shl64 (x i : Nat) : IntKind.u64.wrap ((x : Int) * 2 ^ min i IntKind.u64.bits) = ((x * 2 ^ i % 2 ^ 64 : Nat) : Int) := by
  have hb : IntKind.u64.bits = 64 := rfl
  rw [hb, IntKind.wrap_u64]
  have e : ((x : Int) * 2 ^ min i 64) = ((x * 2 ^ min i 64 : Nat) : Int) := by simp
  rw [e]
  rcases Nat.le_total i 64 with h | h
  · rw [Nat.min_eq_left h]; omega
  · rw [Nat.min_eq_right h]
    have : x * 2 ^ i % 2 ^ 64 = 0 := by
      obtain ⟨k, rfl⟩ := Nat.exists_eq_add_of_le h
      rw [Nat.pow_add, Nat.mul_comm (2 ^ 64), ← Nat.mul_assoc]; exact Nat.mul_mod_left _ _
    omega
theorem c_Number {v u : Value} {vs : List Nat} {ks : List Int} {G : GH} (hv : SlN G v vs) (hu : SlI G .i64 u ks) (hk : ∀ k ∈ ks, 0 ≤ k ∧ k < vs.length) :
    Pure 32 [v, u] G (.int .u64 (numAt vs 0 ks 0 : Nat)) := by
  obtain ⟨a, c, rfl, h1, h2, hrow⟩ := hv
  obtain ⟨a', c', rfl, h1', h2', hrow'⟩ := hu
  refine acalls mixed k_ref13_Number (by simp) fun F => ?_
  simp only [GV, frArgs, memArgs, resV, fillL, ← Bool.decide_or, ← Bool.decide_and, ← decide_not, ↓reduceIte, Nat.reduceEqDiff, Nat.reduceAdd, Nat.reduceMul, Nat.reduceLeDiff, Nat.reduceLT, Nat.reduceSub, Nat.succ_ne_zero, Nat.one_ne_zero, Nat.zero_ne_one, true_implies, false_implies, forall_const, implies_true, reduceCtorEq, eq_self, ite_true, ite_false, decide_true, decide_false, Nat.le_refl, Bool.false_eq_true, if_true, if_false]
  refine loop_intro (fun n fr G' M => ∃ (i acc : Nat), n = ks.length - i ∧ i ≤ ks.length ∧ acc < 2 ^ 64 ∧ numAt vs i (ks.drop i) acc = numAt vs 0 ks 0 ∧ G' = G ∧ fr = [(0, true, .slice a vs.length c), (5, true, .int .u64 acc), (8, true, .slice a' ks.length c'), (9, true, .int .i64 ks.length), (10, true, .int .i64 i)] ∧ M = [(1000000, F)]) ks.length ⟨0, 0, by simp, by simp, by simp, by simp, rfl, by simp, rfl⟩ ?_
  rintro n fr G1 M - ⟨i, acc, rfl, hi, hacc, hp, rfl, rfl, rfl⟩
  simp only [GV, frArgs, memArgs, resV, fillL, ← Bool.decide_or, ← Bool.decide_and, ← decide_not, ↓reduceIte, Nat.reduceEqDiff, Nat.reduceAdd, Nat.reduceMul, Nat.reduceLeDiff, Nat.reduceLT, Nat.reduceSub, Nat.succ_ne_zero, Nat.one_ne_zero, Nat.zero_ne_one, true_implies, false_implies, forall_const, implies_true, reduceCtorEq, eq_self, ite_true, ite_false, decide_true, decide_false, Nat.le_refl, Bool.false_eq_true, if_true, if_false]
  refine cond_dec (fun h => ?_) (fun h => ?_)
  · have hlt : i < ks.length := by omega
    obtain ⟨b, o, rfl, hx⟩ := RowI.get hrow' hlt
    have hki := hk ks[i] (List.getElem_mem hlt)
    obtain ⟨b2, o2, rfl, hx2⟩ := RowN.at hrow hki.1 hki.2
    have hw : IntKind.u64.wrap ((acc : Int) + ((at0 vs ks[i] * 2 ^ i % 2 ^ 64 : Nat) : Int)) = (((acc + at0 vs ks[i] * 2 ^ i % 2 ^ 64) % 2 ^ 64 : Nat) : Int) := by rw [IntKind.wrap_u64]; omega
    simp only [GV, frArgs, memArgs, resV, fillL, ← Bool.decide_or, ← Bool.decide_and, ← decide_not, ↓reduceIte, Nat.reduceEqDiff, Nat.reduceAdd, Nat.reduceMul, Nat.reduceLeDiff, Nat.reduceLT, Nat.reduceSub, Nat.succ_ne_zero, Nat.one_ne_zero, Nat.zero_ne_one, true_implies, false_implies, forall_const, implies_true, reduceCtorEq, eq_self, ite_true, ite_false, decide_true, decide_false, Nat.le_refl, Bool.false_eq_true, if_true, if_false, hx, hx2, Nat.mul_one, wrapn (show i < maxLen by omega), shl64, hw]
    refine ⟨by omega, by omega, by omega, ks.length - (i + 1), by omega, i + 1, _, rfl, by omega, Nat.mod_lt _ (by decide), ?_, rfl⟩
    rw [← hp, List.drop_eq_getElem_cons hlt, numAt]
  · simp only [GV, frArgs, memArgs, resV, fillL, ← Bool.decide_or, ← Bool.decide_and, ← decide_not, ↓reduceIte, Nat.reduceEqDiff, Nat.reduceAdd, Nat.reduceMul, Nat.reduceLeDiff, Nat.reduceLT, Nat.reduceSub, Nat.succ_ne_zero, Nat.one_ne_zero, Nat.zero_ne_one, true_implies, false_implies, forall_const, implies_true, reduceCtorEq, eq_self, ite_true, ite_false, decide_true, decide_false, Nat.le_refl, Bool.false_eq_true, if_true, if_false]
    rw [← hp, List.drop_eq_nil_of_le (by omega)]
    rfl

/-- A power. -/
def powP (p a : Nat) (e : Nat) : Nat :=
  if e = 0 then 1 else
    let h := powP p a (e / 2)
    let h := h * h % p
    if e % 2 = 1 then h * a % p else h
termination_by e
theorem powP_lt {p a : Nat} (hp : 1 < p) (e : Nat) : powP p a e < p := by
  unfold powP
  split
  · exact hp
  · simp only []
    split <;> exact Nat.mod_lt _ (by omega)
theorem powP_odd {p a e : Nat} (h : e ≠ 0) (h1 : e % 2 = 1) : powP p a e = powP p a (e / 2) * powP p a (e / 2) % p * a % p := by rw [powP, if_neg h, if_pos h1]
theorem powP_even {p a e : Nat} (h : e ≠ 0) (h1 : e % 2 ≠ 1) : powP p a e = powP p a (e / 2) * powP p a (e / 2) % p := by rw [powP, if_neg h, if_neg h1]
theorem mul_small {x y : Nat} (hx : x < 2 ^ 32) (hy : y < 2 ^ 32) : x * y < 2 ^ 64 := Nat.lt_of_le_of_lt (Nat.mul_le_mul (Nat.le_of_lt_succ hx) (Nat.le_of_lt_succ hy)) (by decide)
end Go.Gv.W
